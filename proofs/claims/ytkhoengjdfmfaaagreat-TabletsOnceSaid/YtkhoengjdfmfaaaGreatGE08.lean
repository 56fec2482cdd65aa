/- Parts of the proof that belong together: Va Vb Sdf Vc Vd Tl. -/
import Derived.Test.YtkhoengjdfmfaaaGreatGE03
import Derived.Test.YtkhoengjdfmfaaaGreatGE05
import Derived.Test.YtkhoengjdfmfaaaGreatGE07
import Derived.RecoverIn
set_option maxRecDepth 10000
set_option linter.unusedSimpArgs false
set_option linter.unusedVariables false
namespace Go.Proofs.YtkhoengjdfmfaaaGreat
abbrev b8C (n : Nat) : List AV := [.int .u8 (n : Int)]
abbrev bys (l : List Nat) : AV := .dl 1 (l.map b8C)
abbrev rowB (v : Value) (l : List Nat) : Ent := .row v 5 1 (l.map b8C)
abbrev noStr : AV := .str ⟨#[]⟩
abbrev itC (n : Int) : List AV := [.int .i64 1, .int .i64 n, noStr, .slv nilS]
abbrev lvC (ns : List Int) : List AV := [.int .i64 3, .int .i64 0, noStr, .dl 4 (ns.map itC)]
theorem it_get {l : List Int} {k : Nat} {x : Int} (h : l[k]? = some x) : (l.map itC)[k]? = some (itC x) := by rw [List.getElem?_map, h]; rfl
/-- What is said of a row's change, wherever it stands. -/
theorem scall_upd {P : Program} {f : FuncId} {args : List AV} {σ : List Ent} {e : Ent} {F : Value → List Ent} {E : Value → Ent} (h : ∀ σ0, SCall P f args (e :: σ0) (fun r τ => ∃ v', r = .slv v' ∧ τ = E v' :: σ0)) (hu : ∀ v', Upd σ e (E v') (F v')) : SCall P f args σ (fun r τ => ∃ v', r = .slv v' ∧ τ = F v') := by
  obtain ⟨a, c, h1, h2⟩ := (hu nilS).split
  have hp : σ.Perm (e :: (a ++ c)) := by rw [h1]; exact List.perm_middle
  refine ⟨fun X M w vs hg ha => ?_⟩
  refine Calls.mono ((h (a ++ c)).run X M w vs (hg.perm hp) ha) ?_
  rintro e' w' ⟨M', σ', r, v, hm, hg', hr, he, v', h3, h4⟩
  refine ⟨M', F v', r, v, hm, hg'.perm ?_, hr, he, v', h3, rfl⟩
  obtain ⟨a', c', k1, k2⟩ := (hu v').split
  rw [h4, k2]
  have h5 : (e :: (a ++ c)).Perm (e :: (a' ++ c')) := by
    have : (a ++ e :: c).Perm (a' ++ e :: c') := by rw [← h1, ← k1]
    exact List.perm_middle.symm.trans (this.trans List.perm_middle)
  exact ((h5.cons_inv).cons (E v')).trans List.perm_middle.symm
set_option maxHeartbeats 4000000 in
theorem formedI_c (n : Int) (σ : List Ent) : SCall Tryz.prog 162 [.agg (itC n)] σ (Is (.tup [.int .i64 0, .bool true]) σ) := by
  refine scall_of Tryz.func162 rfl (by simp) ?_
  refine zX (zZ ?_); refine xBb ?_; intro _; refine xAs ?_; refine xAs ?_; refine zY ?_; refine zX (zZ ?_); refine xFa ?_; refine xLd ?_; apply zQ; rfl; rfl; rfl; (exact g_eqlStr (q := true) rfl rfl rfl (beq_self_eq_true _)); refine xMv ?_; refine yFa ?_; refine yLd ?_; apply exl_isW; rfl; (rfl); rfl; rfl; (apply g_len; rfl; rfl; (exact .inr ⟨rfl, rfl⟩)); refine yBi ?_; intro _ _; refine xPt ?_; refine xFa ?_; refine xLd ?_; refine xBi ?_; intro _ _; refine xMv ?_; refine q_d (fun h h_k => ?_) (fun h h_k => ?_) <;> ((try subst h_k); (have hp := h; try simp only [q_n] at hp); (try (exfalso; first | omega | (cases hp; done))));
  refine yFa ?_; refine yLd ?_; apply exl_isW; rfl; (rfl); rfl; rfl; (apply g_len; rfl; rfl; (exact .inr ⟨rfl, rfl⟩)); refine yBi ?_; intro _ _; refine xPt ?_; refine xFa ?_; refine xLd ?_; refine xBi ?_; intro _ _; refine xMv ?_; refine q_d (fun h h_k => ?_) (fun h h_k => ?_) <;> ((try subst h_k); (have hp := h; try simp only [q_n] at hp); (try (exfalso; first | omega | (cases hp; done))));
  refine yFa ?_; refine yLd ?_; apply exl_isW; rfl; (rfl); rfl; rfl; (exact g_eqlStr (q := true) rfl rfl rfl (beq_self_eq_true _)); refine xPt ?_; apply zQ; rfl; rfl; rfl; (apply g_buildArr; rfl; rfl; rfl; rfl); refine xBa ?_; intro _; refine xSt ?_; refine zY ?_; refine zX ?_; refine zX (zZ ?_); refine xFa ?_; refine xLd ?_; refine xBi ?_; intro _ _; refine xMv ?_; refine q_d (fun h h_k => ?_) (fun h h_k => ?_) <;> ((try subst h_k); (have hp := h; try simp only [q_n] at hp); (try (exfalso; first | omega | (cases hp; done))));
  refine yFa ?_; refine yLd ?_; refine yBi ?_; intro _ _; refine xPf ?_; refine xMv ?_; refine q_d (fun h h_k => ?_) (fun h h_k => ?_) <;> ((try subst h_k); (have hp := h; try simp only [q_n] at hp); (try (exfalso; first | omega | (cases hp; done))));
  refine yFa ?_; refine yLd ?_; apply exl_isW; rfl; (rfl); rfl; rfl; (apply g_indexArr; rfl; rfl; rfl; (exact (rfl : (1:Int) = ((1:Nat):Int))); (exact q_b rfl); rfl); refine yLd ?_; refine yNo ?_; intro _ _; refine xPf ?_; refine zY ?_; refine q_c (fun h h_k => ?_) (fun h h_k => ?_) <;> ((try subst h_k); (have hp := h; try simp only [q_n] at hp); (try (exfalso; first | omega | (cases hp; done))));
  refine zX (zZ ?_); refine xAs ?_; refine xAs ?_; refine zY ?_; refine zJ ?_; simp only [zP, zU, zT, zW, retA, ↓reduceIte, Nat.reduceEqDiff]; rotate_left; refine zR ?_; refine zX ?_; refine zX (zZ ?_); refine xFa ?_; refine xLd ?_; refine xBi ?_; intro _ _; refine zY ?_; refine q_c (fun h h_k => ?_) (fun h h_k => ?_) <;> ((try subst h_k); (have hp := h; try simp only [q_n] at hp); (try (exfalso; first | omega | (cases hp; done))));
  refine zX (zZ ?_); refine xAs ?_; refine xAs ?_; refine zY ?_; refine zJ ?_; simp only [zP, zU, zT, zW, retA, ↓reduceIte, Nat.reduceEqDiff]; rotate_left; refine xSk ?_; refine xSk ?_; refine xSk ?_; refine xSk ?_; refine xPf ?_; refine xFa ?_; refine xLd ?_; refine xBi ?_; intro _ _; refine xMv ?_; refine q_d (fun h h_k => ?_) (fun h h_k => ?_) <;> ((try subst h_k); (have hp := h; try simp only [q_n] at hp); (try (exfalso; first | omega | (cases hp; done))));
  refine xSk ?_; refine xSk ?_; refine xSk ?_; refine xPf ?_; apply zQ; rfl; rfl; rfl; (apply g_buildArr; rfl; rfl; rfl; rfl); refine xBa ?_; intro _; refine xSt ?_; refine zY ?_; refine zX ?_; refine zX (zZ ?_); refine xFa ?_; refine xLd ?_; refine xBi ?_; intro _ _; refine xMv ?_; refine q_d (fun h h_k => ?_) (fun h h_k => ?_) <;> ((try subst h_k); (have hp := h; try simp only [q_n] at hp); (try (exfalso; first | omega | (cases hp; done))));
  refine yFa ?_; refine yLd ?_; refine yBi ?_; intro _ _; refine xPf ?_; refine xMv ?_; refine q_d (fun h h_k => ?_) (fun h h_k => ?_) <;> ((try subst h_k); (have hp := h; try simp only [q_n] at hp); (try (exfalso; first | omega | (cases hp; done))));
  refine yFa ?_; refine yLd ?_; apply exl_isW; rfl; (rfl); rfl; rfl; (apply g_indexArr; rfl; rfl; rfl; (exact (rfl : (1:Int) = ((1:Nat):Int))); (exact q_b rfl); rfl); refine yLd ?_; refine yNo ?_; intro _ _; refine xPf ?_; refine zY ?_; refine q_c (fun h h_k => ?_) (fun h h_k => ?_) <;> ((try subst h_k); (have hp := h; try simp only [q_n] at hp); (try (exfalso; first | omega | (cases hp; done))));
  refine zX (zZ ?_); refine xAs ?_; refine xAs ?_; refine zY ?_; refine zJ ?_; simp only [zP, zU, zT, zW, retA, ↓reduceIte, Nat.reduceEqDiff]; rotate_left; refine zR ?_; refine zX ?_; refine zX (zZ ?_); refine xFa ?_; refine xLd ?_; refine xBi ?_; intro _ _; refine zY ?_; refine q_c (fun h h_k => ?_) (fun h h_k => ?_) <;> ((try subst h_k); (have hp := h; try simp only [q_n] at hp); (try (exfalso; first | omega | (cases hp; done))));
  refine zX (zZ ?_); refine xAs ?_; refine xAs ?_; refine zY ?_; refine zJ ?_; simp only [zP, zU, zT, zW, retA, ↓reduceIte, Nat.reduceEqDiff]; rotate_left
  (all_goals (repeat (rename BV _ _ => hbv; first | cases hbv | clear hbv)))
  all_goals (try (first | cases ‹true = false› | cases ‹false = true›))
  all_goals
    refine q_ri ?_
    rfl
set_option maxHeartbeats 4000000 in
theorem formedL_c (ns : List Int) (σ : List Ent) : SCall Tryz.prog 162 [.agg (lvC ns)] σ (Is (.tup [.int .i64 1, .bool true]) σ) := by
  refine scall_of Tryz.func162 rfl (by simp) ?_
  have h3 : (3 : Int) = ((3 : Nat) : Int) := rfl
  refine zX (zZ ?_); refine xBb ?_; intro _; refine xAs ?_; refine xAs ?_; refine zY ?_; refine zX (zZ ?_); refine xFa ?_; refine xLd ?_; apply zQ; rfl; rfl; rfl; (exact g_eqlStr (q := true) rfl rfl rfl (beq_self_eq_true _)); refine xMv ?_; refine yFa ?_; refine yLd ?_; apply exl_isW; rfl; (rfl); rfl; rfl; (apply g_len; rfl; rfl; (exact (List.length_map _).symm)); refine yBi ?_; intro _ _; refine xPt ?_; refine xFa ?_; refine xLd ?_; refine xBi ?_; intro _ _; refine xMv ?_; refine q_d (fun h h_k => ?_) (fun h h_k => ?_) <;> ((try subst h_k); (have hp := h; try simp only [q_n] at hp); (try (exfalso; first | omega | (cases hp; done))));
  refine yFa ?_; refine yLd ?_; apply exl_isW; rfl; (rfl); rfl; rfl; (apply g_len; rfl; rfl; (exact (List.length_map _).symm)); refine yBi ?_; intro _ _; refine xPt ?_; refine xFa ?_; refine xLd ?_; refine xBi ?_; intro _ _; refine xMv ?_; refine q_d (fun h h_k => ?_) (fun h h_k => ?_) <;> ((try subst h_k); (have hp := h; try simp only [q_n] at hp); (try (exfalso; first | omega | (cases hp; done))));
  refine yFa ?_; refine yLd ?_; apply exl_isW; rfl; (rfl); rfl; rfl; (exact g_eqlStr (q := true) rfl rfl rfl (beq_self_eq_true _)); refine xPt ?_; apply zQ; rfl; rfl; rfl; (apply g_buildArr; rfl; rfl; rfl; rfl); refine xBa ?_; intro _; refine xSt ?_; refine zY ?_; refine zX ?_; refine zX (zZ ?_); refine xFa ?_; refine xLd ?_; refine xBi ?_; intro _ _; refine xMv ?_; refine q_d (fun h h_k => ?_) (fun h h_k => ?_) <;> ((try subst h_k); (have hp := h; try simp only [q_n] at hp); (try (exfalso; first | omega | (cases hp; done))));
  refine yFa ?_; refine yLd ?_; refine yBi ?_; intro _ _; refine xPf ?_; refine xMv ?_; refine q_d (fun h h_k => ?_) (fun h h_k => ?_) <;> ((try subst h_k); (have hp := h; try simp only [q_n] at hp); (try (exfalso; first | omega | (cases hp; done))));
  refine yFa ?_; refine yLd ?_; apply exl_isW; rfl; (rfl); rfl; rfl; (apply g_indexArr; rfl; rfl; rfl; (rfl); (exact q_b rfl); rfl); refine yLd ?_; refine yNo ?_; intro _ _; refine xPf ?_; refine zY ?_; refine q_c (fun h h_k => ?_) (fun h h_k => ?_) <;> ((try subst h_k); (have hp := h; try simp only [q_n] at hp); (try (exfalso; first | omega | (cases hp; done))));
  refine zR ?_; refine zX ?_; refine zX (zZ ?_); refine xFa ?_; refine xLd ?_; refine xBi ?_; intro _ _; refine zY ?_; refine q_c (fun h h_k => ?_) (fun h h_k => ?_) <;> ((try subst h_k); (have hp := h; try simp only [q_n] at hp); (try (exfalso; first | omega | (cases hp; done))));
  refine zR ?_; refine zX ?_; refine zX (zZ ?_); refine xFa ?_; refine xLd ?_; refine xLn ?_; refine xMv ?_; refine zY ?_; refine zL ?_; simp only [zP, zU, zT, zW, retA, ↓reduceIte, Nat.reduceEqDiff]; rotate_left
  (all_goals (repeat (rename BV _ _ => hbv; first | cases hbv | clear hbv)))
  all_goals (try (first | cases ‹true = false› | cases ‹false = true›))
  all_goals
    refine ex_len (t := 55) rfl ((List.length_map _).symm) (fun hlen => ?_)
    refine ex_loop (fun (k : Nat) => (⟨[(2, .int .i64 0), (55, .dl 4 (ns.map itC)), (56, .int .i64 ns.length), (57, .int .i64 k)], σ, [], Tryz.f162.ntmps⟩ : St)) (fun k => k ≤ ns.length) (fun k => ns.length - k) 0 (Nat.zero_le _) (St.le_of (by repeat (first | exact trivial | refine ⟨rfl, ?_⟩)) (by repeat (first | exact q_r | apply q_q | apply q_k))) ?_
    intro k hI
    by_cases hk : k < ns.length
    · obtain ⟨c, hc⟩ : ∃ c, ns[k]? = some c := get_some hk
      have hgc := it_get hc
      refine zX (zZ ?_); refine xBi ?_; intro _ _; refine zY ?_; refine zX ?_; refine q_c (fun h h_k => ?_) (fun h h_k => ?_) <;> ((try subst h_k); (have hp := h; try simp only [q_n] at hp); (try (exfalso; first | omega | (cases hp; done))));
      refine zR ?_; refine zX ?_; refine zL ?_; refine zX (zZ ?_); refine xIx ?_; refine xLa ?_; refine xBa ?_; intro _; refine xSt ?_; refine zY ?_; refine zX (zZ ?_); refine xLa ?_; apply zQ; rfl; rfl; rfl; (refine zK rfl rfl (zV (by kernel_rfl)) ?_; exact formedI_c _ _); refine xMv ?_; refine xEx ?_; refine xEx ?_; refine xAs ?_; refine xAs ?_; refine zY ?_; refine zX ?_; refine zX (zZ ?_); refine xMv ?_; refine xNo ?_; intro _ _; refine zY ?_; refine q_c (fun h h_k => ?_) (fun h h_k => ?_) <;> ((try subst h_k); (have hp := h; try simp only [q_n] at hp); (try (exfalso; first | omega | (cases hp; done))));
      refine zR ?_; refine zZ ?_; refine xMv ?_; refine xMv ?_; apply zQ; rfl; rfl; rfl; (apply g_max; rfl; rfl); refine xAs ?_; refine zN ?_; refine zZ ?_; refine xAd ?_; refine xMv ?_; refine zN ?_; simp only [zP, zU, zT, zW, retA, ↓reduceIte, Nat.reduceEqDiff]; rotate_left
      (all_goals (repeat (rename BV _ _ => hbv; first | cases hbv | clear hbv)))
      all_goals (try (first | cases ‹true = false› | cases ‹false = true›))
      refine ⟨k + 1, hk, by omega, ?_⟩
      exact q_le
    · refine zX (zZ ?_); refine xBi ?_; intro _ _; refine zY ?_; refine zX ?_; refine q_c (fun h h_k => ?_) (fun h h_k => ?_) <;> ((try subst h_k); (have hp := h; try simp only [q_n] at hp); (try (exfalso; first | omega | (cases hp; done))));
      refine ex_exit ?_; refine zX (zZ ?_); refine xMv ?_; refine xAd ?_; refine xAs ?_; refine xAs ?_; refine zY ?_; refine zJ ?_; simp only [zP, zU, zT, zW, retA, ↓reduceIte, Nat.reduceEqDiff]; rotate_left
      (all_goals (repeat (rename BV _ _ => hbv; first | cases hbv | clear hbv)))
      all_goals (try (first | cases ‹true = false› | cases ‹false = true›))
      refine q_ri ?_
      rfl
theorem checkV_c (ns : List Int) (σ : List Ent) : SCall Tryz.prog 149 [.agg (lvC ns)] σ (Is (.int .i64 0) σ) := by
  refine scall_of Tryz.func149 rfl (by simp) ?_
  refine zX (zZ ?_); refine xBb ?_; intro _; refine xAs ?_; refine zY ?_; refine zX (zZ ?_); refine xLa ?_; apply zQ; rfl; rfl; rfl; (refine zK rfl rfl (zV (by kernel_rfl)) ?_; exact formedL_c _ _); refine xMv ?_; refine xEx ?_; refine xEx ?_; refine xAs ?_; refine xAs ?_; refine zY ?_; refine zX ?_; refine zL ?_; refine zX (zZ ?_); refine xMv ?_; refine xNo ?_; intro _ _; refine xAs ?_; refine zY ?_; refine q_c (fun h h_k => ?_) (fun h h_k => ?_) <;> ((try subst h_k); (have hp := h; try simp only [q_n] at hp); (try (exfalso; first | omega | (cases hp; done))));
  refine zX (zZ ?_); refine xMv ?_; refine xBi ?_; intro _ _; refine xAs ?_; refine zY ?_; refine q_c (fun h h_k => ?_) (fun h h_k => ?_) <;> ((try subst h_k); (have hp := h; try simp only [q_n] at hp); (try (exfalso; first | omega | (cases hp; done))));
  refine zR ?_; refine zX (zZ ?_); refine xAs ?_; refine zY ?_; refine zJ ?_; simp only [zP, zU, zT, zW, retA, ↓reduceIte, Nat.reduceEqDiff]; rotate_left
  (all_goals (repeat (rename BV _ _ => hbv; first | cases hbv | clear hbv)))
  all_goals (try (first | cases ‹true = false› | cases ‹false = true›))
  refine q_ri ?_
  rfl
theorem rowB_snoc (v : Value) (C : List Nat) (w : Nat) : rowB v (C ++ [w]) = .row v 5 1 (C.map b8C ++ [b8C w]) := by simp [rowB]
theorem or128 (u : Nat) : (u % 256) ||| 128 = u % 128 + 128 := by
  have h : ∀ x, x < 256 → x ||| 128 = x % 128 + 128 := by decide
  rw [h _ (Nat.mod_lt _ (by omega))]; omega
set_option maxHeartbeats 4000000 in
theorem numeral0_c (B : List Nat) (u : Nat) (hu : u < 9223372036854775808) (hB : B.length ≤ 100000) (v : Value) (σ : List Ent) :
    SCall Tryz.prog 164 [.slv v, .int .u64 u] (rowB v B :: σ) (fun r τ => ∃ v', r = .slv v' ∧ τ = rowB v' (B ++ numL u) :: σ) := by
  refine scall_of Tryz.func164 rfl (by simp) ?_
  refine zX (zZ ?_); refine xAs ?_; refine zY ?_; refine zX ?_; refine zL ?_; rotate_left
  (all_goals (repeat (rename BV _ _ => hbv; first | cases hbv | clear hbv)))
  all_goals (try (first | cases ‹true = false› | cases ‹false = true›))
  refine ex_loop (fun (z : List Nat × Nat × Value) => (⟨[(0, .slv z.2.2), (1, .int .u64 z.2.1)], rowB z.2.2 z.1 :: σ, [], Tryz.f164.ntmps⟩ : St)) (fun z => z.1 ++ numL z.2.1 = B ++ numL u ∧ z.2.1 < 9223372036854775808 ∧ z.1.length + (numL z.2.1).length ≤ 100010) (fun z => z.2.1) (B, u, v) (⟨rfl, hu, by have := numL_len (k := 8) (u := u) (by omega); dsimp only; omega⟩) (St.le_of (by repeat (first | exact trivial | refine ⟨rfl, ?_⟩)) (by repeat (first | exact q_r | apply q_q | apply q_k))) ?_
  intro z hI
  obtain ⟨C, w, x⟩ := z
  obtain ⟨hI1, hI2, hI3⟩ := hI
  dsimp only at hI1 hI2 hI3 ⊢
  clear hu hB
  by_cases hw : w < 128
  · rw [numL_lo hw] at hI1 hI3
    rw [← hI1]
    have h8 : IntKind.u8.wrap (w : Int) = (w : Int) := wrapU8 (by omega)
    simp only [List.length_singleton] at hI3
    refine zX ?_; refine zX (zZ ?_); refine xMv ?_; refine xBi ?_; intro _ _; refine zY ?_; refine q_c (fun h h_k => ?_) (fun h h_k => ?_) <;> ((try subst h_k); (have hp := h; try simp only [q_n] at hp); (try (exfalso; first | omega | (cases hp; done))));
    refine ex_exit ?_; refine zX (zZ ?_); refine xMv ?_; refine xMv ?_; apply zQ; rfl; rfl; rfl; (exact g_conv rfl rfl rfl h8); refine exl_row rfl rfl rfl (by exact g_buildSlice rfl rfl (by decide) rfl rfl (by (simp only [chunkN, List.take_succ_cons, List.take_zero, List.drop_succ_cons, List.drop_zero]; rfl))) ?_; intro _; apply exl_grew; rfl; rfl; rfl; (apply g_append; rfl; rfl; rfl; (intro v'; (exact Upd.there (Upd.here))); (exact .r (by (repeat first | exact q_h | apply q_t | assumption); done)); (intro y hy; simp only [List.mem_map, List.mem_cons, List.not_mem_nil, or_false, List.mem_append] at hy; (focus (obtain ⟨_, _, rfl⟩ := hy; rfl; done))); (refine app_ok ?_ (by kernel_rfl); (try simp only [List.length_append, List.length_map, List.length_cons, List.length_nil, List.length_take, List.length_drop]); omega)); intro _; refine xAs ?_; refine zY ?_; refine zJ ?_; simp only [zP, zU, zT, zW, retA, ↓reduceIte, Nat.reduceEqDiff]; rotate_left
    (all_goals (repeat (rename BV _ _ => hbv; first | cases hbv | clear hbv)))
    all_goals (try (first | cases ‹true = false› | cases ‹false = true›))
    rename Value => v2
    refine q_rq (σ3 := .row v2 5 1 (C.map b8C ++ [b8C w]) :: σ) ?_
    exact fin_done ⟨v2, rfl, by rw [rowB_snoc]⟩
  · rw [numL_hi hw] at hI1 hI3
    have h8 : IntKind.u8.wrap (w : Int) = ((w % 256 : Nat) : Int) := by rw [IntKind.wrap_u8]; omega
    have h128 : (128 : Int) = ((128 : Nat) : Int) := rfl
    have h7 : (7 : Int) = ((7 : Nat) : Int) := rfl
    rw [List.length_cons] at hI3
    have hnx : (C ++ [w % 128 + 128]) ++ numL (w / 128) = B ++ numL u := by rw [← hI1]; simp
    clear hI1
    refine zX ?_; refine zX (zZ ?_); refine xMv ?_; refine xBi ?_; intro _ _; refine zY ?_; refine q_c (fun h h_k => ?_) (fun h h_k => ?_) <;> ((try subst h_k); (have hp := h; try simp only [q_n] at hp); (try (exfalso; first | omega | (cases hp; done))));
    refine zR ?_; refine zX ?_; refine zL ?_; refine zZ ?_; refine xMv ?_; refine xMv ?_; apply zQ; rfl; rfl; rfl; (exact g_conv rfl rfl rfl h8); apply zQ; rfl; rfl; rfl; (exact g_or8 rfl rfl rfl h128 (Nat.mod_lt _ (by omega)) (by omega) (or128 w)); refine exl_row rfl rfl rfl (by exact g_buildSlice rfl rfl (by decide) rfl rfl (by (simp only [chunkN, List.take_succ_cons, List.take_zero, List.drop_succ_cons, List.drop_zero]; rfl))) ?_; intro _; apply exl_grew; rfl; rfl; rfl; (apply g_append; rfl; rfl; rfl; (intro v'; (exact Upd.there (Upd.here))); (exact .r (by (repeat first | exact q_h | apply q_t | assumption); done)); (intro y hy; simp only [List.mem_map, List.mem_cons, List.not_mem_nil, or_false, List.mem_append] at hy; (focus (obtain ⟨_, _, rfl⟩ := hy; rfl; done))); (refine app_ok ?_ (by kernel_rfl); (try simp only [List.length_append, List.length_map, List.length_cons, List.length_nil, List.length_take, List.length_drop]); omega)); intro _; refine xAs ?_; refine zN ?_; refine zZ ?_; refine xMv ?_; apply zQ; rfl; rfl; rfl; (exact g_shrU rfl rfl rfl h7 (by omega) (show w / 2 ^ 7 = w / 128 from rfl)); refine xAs ?_; refine zN ?_; simp only [zP, zU, zT, zW, retA, ↓reduceIte, Nat.reduceEqDiff]; rotate_left
    (all_goals (repeat (rename BV _ _ => hbv; first | cases hbv | clear hbv)))
    all_goals (try (first | cases ‹true = false› | cases ‹false = true›))
    rename Value => v2
    refine ⟨(C ++ [w % 128 + 128], w / 128, v2), ⟨hnx, by dsimp only; omega, by simp; omega⟩, by dsimp only; omega, ?_⟩
    dsimp only
    rw [rowB_snoc]
    exact q_le
theorem unsigned_c (n : Nat) (hn : n ≤ 1073741824) (σ : List Ent) : SCall Tryz.prog 165 [.int .i64 n] σ (Is (.int .u64 ((2 * n : Nat) : Int)) σ) := by
  refine scall_of Tryz.func165 rfl (by simp) ?_
  have h1 : IntKind.u64.wrap (n : Int) = ((n : Nat) : Int) := wrapU64 (by omega)
  have h0 : IntKind.u64.wrap ((0 : Nat) : Int) = ((0 : Nat) : Int) := wrapU64 (by omega)
  have hone : (1 : Int) = ((1 : Nat) : Int) := rfl
  have h63 : (63 : Int) = ((63 : Nat) : Int) := rfl
  have hz : n / 2 ^ 63 = 0 := Nat.div_eq_of_lt (by omega)
  refine zX (zZ ?_); refine xAs ?_; refine zY ?_; refine zX (zZ ?_); refine xMv ?_; apply zQ; rfl; rfl; rfl; (exact g_conv rfl rfl rfl h1); apply zQ; rfl; rfl; rfl; (exact g_shlU rfl rfl rfl hone (by omega) (show n * 2 ^ 1 = 2 * n by omega) (by omega)); refine xMv ?_; apply zQ; rfl; rfl; rfl; (exact g_shrI rfl rfl rfl h63 (by omega) hz); apply zQ; rfl; rfl; rfl; (exact g_conv rfl rfl rfl h0); apply zQ; rfl; rfl; rfl; (exact g_xorU rfl rfl rfl rfl (by omega) (by omega) (Nat.xor_zero _)); refine xAs ?_; refine zY ?_; refine zJ ?_; simp only [zP, zU, zT, zW, retA, ↓reduceIte, Nat.reduceEqDiff]; rotate_left
  (all_goals (repeat (rename BV _ _ => hbv; first | cases hbv | clear hbv)))
  all_goals (try (first | cases ‹true = false› | cases ‹false = true›))
  refine q_ri ?_
  rfl
theorem numeral_c {B : List Nat} {u : Nat} {v : Value} {σ : List Ent} {F : Value → List Ent} (hu : u < 9223372036854775808) (hB : B.length ≤ 100000) (hF : ∀ v', Upd σ (rowB v B) (rowB v' (B ++ numL u)) (F v')) :
    SCall Tryz.prog 164 [.slv v, .int .u64 u] σ (fun r τ => ∃ v', r = .slv v' ∧ τ = F v') := scall_upd (fun σ0 => numeral0_c B u hu hB v σ0) hF
set_option maxHeartbeats 4000000 in
/-- A number is written. -/
theorem write1_c (B : List Nat) (n : Nat) (hn : n ≤ 1073741824) (hB : B.length ≤ 90000) (v : Value) (σ : List Ent) :
    SCall Tryz.prog 163 [.slv v, .agg (itC n)] (rowB v B :: σ) (fun r τ => ∃ v', r = .slv v' ∧ τ = rowB v' (B ++ itemL n) :: σ) := by
  refine scall_of Tryz.func163 rfl (by simp) ?_
  have hit : B ++ itemL n = (B ++ [1]) ++ numL (2 * n) := by unfold itemL; simp
  rw [hit]
  have h1 := rowB_snoc
  refine zX (zZ ?_); refine xBb ?_; intro _; refine xAs ?_; refine zY ?_; refine zX ?_; rotate_left
  (all_goals (repeat (rename BV _ _ => hbv; first | cases hbv | clear hbv)))
  all_goals (try (first | cases ‹true = false› | cases ‹false = true›))
  rename Nat => b3
  refine ex_drawLO (fun e => e = .cells b3 (itC n) 160) 7 [0, 1, 3, 4, 2, 5, 6] [4, 6] rfl (by kernel_rfl) rfl (by kernel_rfl) rfl ?_
  simp only [pick, List.filterMap_cons, List.filterMap_nil, List.getElem?_cons_zero, List.getElem?_cons_succ, List.take_succ_cons, List.take_zero, List.drop_succ_cons, List.drop_zero]
  refine wMv ?_; apply wl_is; rfl; rfl; rfl; (intro σ' hl; (exact gop_sealed (g_buildSlice rfl rfl (by decide) rfl rfl (by (simp only [chunkN, List.take_succ_cons, List.take_zero, List.drop_succ_cons, List.drop_zero]; rfl))))); refine wFa ?_; refine wLd ?_; refine wl_eff rfl rfl rfl (by apply g_append; rfl; rfl; rfl; (intro v'; (exact Upd.there (Upd.here))); (exact .d); (intro y hy; simp only [List.mem_map, List.mem_cons, List.not_mem_nil, or_false, List.mem_append] at hy; (focus (obtain ⟨_, _, rfl⟩ := hy; rfl; done))); (refine app_ok ?_ (by kernel_rfl); (try simp only [List.length_append, List.length_map, List.length_cons, List.length_nil, List.length_take, List.length_drop]); omega)) ?_; rintro _ _ ⟨v'⟩; refine ⟨(by (rintro _ (rfl | rfl) _ <;> exact (by (repeat first | exact q_h | apply q_t | assumption); done))), ?_⟩; apply wl_is; rfl; rfl; rfl; (intro σ' hl; (refine zK rfl rfl (zV (by kernel_rfl)) ?_; exact unsigned_c n hn _)); refine wl_eff rfl rfl rfl (zK rfl rfl (zV (by kernel_rfl)) (numeral_c (B := B ++ [1]) (u := 2 * n) (by omega) (by simp; omega) (fun v' => by rw [h1]; exact (by (exact Upd.there (Upd.here)))))) ?_; rintro _ _ ⟨v', rfl, rfl⟩; refine ⟨(by (rintro _ (rfl | rfl | rfl) _ <;> exact (by (repeat first | exact q_h | apply q_t | assumption); done))), ?_⟩; refine wl_nil ?_; refine xAs ?_; refine zY ?_; refine zJ ?_; simp only [zP, zU, zT, zW, retA, ↓reduceIte, Nat.reduceEqDiff]; rotate_left
  (all_goals (repeat (rename BV _ _ => hbv; first | cases hbv | clear hbv)))
  all_goals (try (first | cases ‹true = false› | cases ‹false = true›))
  refine q_rq (σ3 := rowB v' (B ++ [1] ++ numL (2 * n)) :: σ) ?_
  exact fin_done ⟨v', rfl, rfl⟩
abbrev wrC (bx : Nat) : List AV := [.raw .nilFunc, .fn (.func 163) [] [], .fn (.func 166) [] [], .fn (.func 167) [] [.ptr bx 0]]
set_option maxHeartbeats 4000000 in
theorem newWriter_c (σ : List Ent) : SCall Tryz.prog 150 [] σ (fun r τ => ∃ bw bx, r = .ptr bw 0 ∧ τ = .cells bx [.ptr bw 0] 192 :: .cells bw (wrC bx) 206 :: σ) := by
  refine scall_of Tryz.func150 rfl (by simp) ?_
  have h3 : (3 : Int) = ((3 : Nat) : Int) := rfl
  refine zX (zZ ?_); refine xAs ?_; refine zY ?_; refine zX (zZ ?_); apply zQ; rfl; rfl; rfl; (apply g_buildArr; rfl; rfl; rfl; rfl); refine xBb ?_; intro _; refine xBa ?_; intro _; refine xSt ?_; refine zY ?_; refine zX (zZ ?_); refine xLd ?_; apply zQ; rfl; rfl; rfl; (apply g_nilCheck; rfl; rfl); apply zQ; rfl; rfl; rfl; (apply g_indexArr; rfl; rfl; rfl; (exact (rfl : (1:Int) = ((1:Nat):Int))); (exact q_b rfl); rfl); refine xFa ?_; refine xSt ?_; refine zY ?_; refine zX (zZ ?_); refine xLd ?_; apply zQ; rfl; rfl; rfl; (apply g_nilCheck; rfl; rfl); apply zQ; rfl; rfl; rfl; (apply g_indexArr; rfl; rfl; rfl; (exact (rfl : (2:Int) = ((2:Nat):Int))); (exact q_b rfl); rfl); refine xFa ?_; refine xSt ?_; refine zY ?_; refine zX (zZ ?_); refine xLd ?_; apply zQ; rfl; rfl; rfl; (apply g_makeFunc; rfl; rfl); apply zQ; rfl; rfl; rfl; (apply g_nilCheck; rfl; rfl); apply zQ; rfl; rfl; rfl; (apply g_indexArr; rfl; rfl; rfl; (rfl); (exact q_b rfl); rfl); refine xFa ?_; refine xSt ?_; refine zY ?_; refine zX (zZ ?_); refine xLd ?_; refine xAs ?_; refine zY ?_; refine zJ ?_; simp only [zP, zU, zT, zW, retA, ↓reduceIte, Nat.reduceEqDiff]; rotate_left
  (all_goals (repeat (rename BV _ _ => hbv; first | cases hbv | clear hbv)))
  all_goals (try (first | cases ‹true = false› | cases ‹false = true›))
  rename Nat => bx; revert bx; rename Nat => bw; revert bw
  intro bw bx
  refine q_rq (σ3 := .cells bx [.ptr bw 0] 192 :: .cells bw (wrC bx) 206 :: σ) ?_
  exact fin_done ⟨bw, bx, rfl, rfl⟩
theorem upd_keepsK {kp : Ent → Prop} {σ σ' : List Ent} {e e' : Ent} (hk : ¬ kp e) (h : Upd σ e e' σ') : AddsK kp σ σ' := by
  obtain ⟨a, c, rfl, rfl⟩ := h.split
  intro x hx hm
  rcases List.mem_append.1 hm with hm | hm
  · simp [hm]
  · rcases List.mem_cons.1 hm with rfl | hm
    · exact absurd hx hk
    · simp [hm]
theorem items_len : ∀ {ns : List Int}, (∀ n ∈ ns, 0 ≤ n ∧ n ≤ 1073741824) → (ns.flatMap itemL).length ≤ 6 * ns.length
  | [], _ => Nat.zero_le _
  | n :: ns, h => by
    have h1 := item_len (h n (by simp))
    have h2 := items_len (ns := ns) fun m hm => h m (by simp [hm])
    rw [List.flatMap_cons, List.length_append, List.length_cons]; omega
set_option maxHeartbeats 8000000 in
theorem write3_c (ns : List Int) (hns : ∀ n ∈ ns, 0 ≤ n ∧ n ≤ 1073741824) (hl : ns.length ≤ 100) (B : List Nat) (hB : B.length ≤ 1000) (bw bx : Nat) (v : Value) (σ : List Ent) :
    SCall Tryz.prog 167 [.slv v, .agg (lvC ns), .ptr bx 0] (rowB v B :: .cells bx [.ptr bw 0] 192 :: .cells bw (wrC bx) 206 :: σ) (fun r τ => ∃ v', r = .slv v' ∧ τ = rowB v' (B ++ [3] ++ numL ns.length ++ ns.flatMap itemL) :: .cells bx [.ptr bw 0] 192 :: .cells bw (wrC bx) 206 :: σ) := by
  refine scall_of Tryz.func167 rfl (by simp) ?_
  have h1 := rowB_snoc
  have hw : IntKind.u64.wrap ((ns.length : Nat) : Int) = ((ns.length : Nat) : Int) := wrapU64 (by omega)
  have hnl := numL_len (k := 1) (u := ns.length) (by omega)
  refine zX (zZ ?_); refine xBb ?_; intro _; refine xAs ?_; refine zY ?_; refine zX ?_; rotate_left
  (all_goals (repeat (rename BV _ _ => hbv; first | cases hbv | clear hbv)))
  all_goals (try (first | cases ‹true = false› | cases ‹false = true›))
  rename Nat => b4
  refine ex_drawLO (fun e => e = .cells b4 (lvC ns) 160) 8 [0, 1, 3, 4, 5, 6, 2, 7] [6, 7] rfl (by kernel_rfl) rfl (by kernel_rfl) rfl ?_
  simp only [pick, List.filterMap_cons, List.filterMap_nil, List.getElem?_cons_zero, List.getElem?_cons_succ, List.take_succ_cons, List.take_zero, List.drop_succ_cons, List.drop_zero]
  refine wMv ?_; apply wl_is; rfl; rfl; rfl; (intro σ' hl; (exact gop_sealed (g_buildSlice rfl rfl (by decide) rfl rfl (by (simp only [chunkN, List.take_succ_cons, List.take_zero, List.drop_succ_cons, List.drop_zero]; rfl))))); refine wFa ?_; refine wLd ?_; apply wl_is; rfl; rfl; rfl; (intro σ' hl; (apply g_len; rfl; rfl; (exact (List.length_map _).symm))); apply wl_is; rfl; rfl; rfl; (intro σ' hl; (exact g_conv rfl rfl rfl hw)); refine wl_eff rfl rfl rfl (by apply g_append; rfl; rfl; rfl; (intro v'; (exact Upd.there (Upd.here))); (exact .d); (intro y hy; simp only [List.mem_map, List.mem_cons, List.not_mem_nil, or_false, List.mem_append] at hy; (focus (obtain ⟨_, _, rfl⟩ := hy; rfl; done))); (refine app_ok ?_ (by kernel_rfl); (try simp only [List.length_append, List.length_map, List.length_cons, List.length_nil, List.length_take, List.length_drop]); omega)) ?_; rintro _ _ ⟨v'⟩; refine ⟨(by (rintro _ (rfl | rfl) _ <;> exact (by (repeat first | exact q_h | apply q_t | assumption); done))), ?_⟩; refine wl_eff rfl rfl rfl (zK rfl rfl (zV (by kernel_rfl)) (numeral_c (B := B ++ [3]) (u := ns.length) (by omega) (by simp; omega) (fun v' => by rw [h1]; exact (by (exact Upd.there (Upd.here)))))) ?_; rintro _ _ ⟨v', rfl, rfl⟩; refine ⟨(by (rintro _ (rfl | rfl | rfl) _ <;> exact (by (repeat first | exact q_h | apply q_t | assumption); done))), ?_⟩; refine wl_nil ?_; refine xAs ?_; refine zY ?_; refine zX ?_; refine zX (zZ ?_); refine xFa ?_; refine xLd ?_; refine xLn ?_; refine xMv ?_; refine zY ?_; refine zL ?_; rotate_left
  (all_goals (repeat (rename BV _ _ => hbv; first | cases hbv | clear hbv)))
  all_goals (try (first | cases ‹true = false› | cases ‹false = true›))
  have hC : (B ++ [3] ++ numL ns.length).length ≤ 1010 := by simp; omega
  have h00 : B ++ [3] ++ numL ns.length = B ++ [3] ++ numL ns.length ++ (ns.take 0).flatMap itemL := by simp
  rw [h00]
  generalize B ++ [3] ++ numL ns.length = C at hC ⊢
  refine ex_loop (fun (z : Nat × Value) => (⟨[(0, .slv z.2), (2, .ptr bx 0), (17, .dl 4 (ns.map itC)), (18, .int .i64 ns.length), (19, .int .i64 z.1)], rowB z.2 (C ++ (ns.take z.1).flatMap itemL) :: .cells bx [.ptr bw 0] 192 :: .cells bw (wrC bx) 206 :: σ, [], Tryz.f167.ntmps⟩ : St)) (fun z => z.1 ≤ ns.length) (fun z => ns.length - z.1) (0, v') (Nat.zero_le _) (St.le_of (by repeat (first | exact trivial | refine ⟨rfl, ?_⟩)) (by repeat (first | exact q_r | apply q_q | apply q_k))) ?_
  intro z hI
  obtain ⟨k, w⟩ := z
  dsimp only at hI ⊢
  by_cases hk : k < ns.length
  · obtain ⟨c, hc⟩ : ∃ c, ns[k]? = some c := get_some hk
    have hgc := it_get hc
    have hcb := hns c (List.mem_of_getElem? hc)
    obtain ⟨m, rfl⟩ : ∃ m : Nat, c = m := ⟨c.toNat, by omega⟩
    have hst : C ++ (ns.take (k + 1)).flatMap itemL = C ++ (ns.take k).flatMap itemL ++ itemL m := by rw [List.take_add_one, hc, List.flatMap_append]; simp
    have hil := items_len (ns := ns.take k) fun n hn => hns n (List.mem_of_mem_take hn)
    rw [List.length_take] at hil
    have hDl : (C ++ (ns.take k).flatMap itemL).length ≤ 90000 := by rw [List.length_append]; omega
    generalize C ++ (ns.take k).flatMap itemL = D at hst hDl ⊢
    clear hns hnl hB hC hil
    refine zX (zZ ?_); refine xBi ?_; intro _ _; refine zY ?_; refine zX ?_; refine q_c (fun h h_k => ?_) (fun h h_k => ?_) <;> ((try subst h_k); (have hp := h; try simp only [q_n] at hp); (try (exfalso; first | omega | (cases hp; done))));
    refine zR ?_; refine zX ?_; refine zL ?_; refine zX (zZ ?_); refine xIx ?_; refine xLa ?_; refine xBa ?_; intro _; refine xSt ?_; refine zY ?_; rotate_left
    (all_goals (repeat (rename BV _ _ => hbv; first | cases hbv | clear hbv)))
    all_goals (try (first | cases ‹true = false› | cases ‹false = true›))
    refine ex_drawLK cellsK 10 [9] rfl (by kernel_rfl) rfl ?_
    simp only [List.take_succ_cons, List.take_zero, List.drop_succ_cons, List.drop_zero]
    refine wLd ?_; refine wFa ?_; refine wLd ?_; apply wl_is; rfl; rfl; rfl; (intro σ' hl; (apply g_nilCheck; rfl; rfl)); apply wl_is; rfl; rfl; rfl; (intro σ' hl; (apply g_indexArr; rfl; rfl; rfl; (exact (rfl : (1:Int) = ((1:Nat):Int))); (exact q_b rfl); rfl)); refine wFa ?_; refine wLd ?_; refine wMv ?_; refine wLa ?_; refine wl_eff rfl rfl rfl (zK rfl rfl (zV (by kernel_rfl)) (scall_upd (fun σ0 => write1_c D m (by omega) hDl w σ0) (fun v' => by exact (by (exact Upd.there (Upd.here)))))) ?_; rintro _ _ ⟨v2, rfl, rfl⟩; refine ⟨upd_keepsK (fun h => h) (by (exact Upd.there (Upd.here))), ?_⟩; refine wl_nil ?_; refine xAs ?_; refine zN ?_; refine zZ ?_; refine xAd ?_; refine xMv ?_; refine zN ?_; simp only [zP, zU, zT, zW, retA, ↓reduceIte, Nat.reduceEqDiff]; rotate_left
    (all_goals (repeat (rename BV _ _ => hbv; first | cases hbv | clear hbv)))
    all_goals (try (first | cases ‹true = false› | cases ‹false = true›))
    refine ⟨(k + 1, v2), hk, by dsimp only; omega, ?_⟩
    dsimp only
    rw [hst]
    exact q_le
  · have e : k = ns.length := by omega
    subst e
    rw [List.take_length]
    refine zX (zZ ?_); refine xBi ?_; intro _ _; refine zY ?_; refine zX ?_; refine q_c (fun h h_k => ?_) (fun h h_k => ?_) <;> ((try subst h_k); (have hp := h; try simp only [q_n] at hp); (try (exfalso; first | omega | (cases hp; done))));
    refine ex_exit ?_; refine zX (zZ ?_); refine xMv ?_; refine xAs ?_; refine zY ?_; refine zJ ?_; simp only [zP, zU, zT, zW, retA, ↓reduceIte, Nat.reduceEqDiff]; rotate_left
    (all_goals (repeat (rename BV _ _ => hbv; first | cases hbv | clear hbv)))
    all_goals (try (first | cases ‹true = false› | cases ‹false = true›))
    refine q_rq (σ3 := rowB w (C ++ ns.flatMap itemL) :: .cells bx [.ptr bw 0] 192 :: .cells bw (wrC bx) 206 :: σ) ?_
    exact fin_done ⟨w, rfl, by simp⟩
end Go.Proofs.YtkhoengjdfmfaaaGreat
namespace Go.Proofs.YtkhoengjdfmfaaaGreat
def encL (ns : List Int) : List Nat := [3] ++ numL ns.length ++ ns.flatMap itemL
theorem enc_msg (s : Sl) : encL (fieldsL s) = msgS s := by
  unfold encL msgS
  rw [show (fieldsL s).length = 8 from rfl, numL_lo (by omega)]; rfl
set_option maxHeartbeats 8000000 in
theorem encode_c (ns : List Int) (hns : ∀ n ∈ ns, 0 ≤ n ∧ n ≤ 1073741824) (hl : ns.length ≤ 100) (σ : List Ent) :
    SCall Tryz.prog 126 [.agg (lvC ns)] σ (Is (.tup [bys (encL ns), .int .i64 0]) σ) := by
  refine scall_of Tryz.func126 rfl (by simp) ?_
  have hw := write3_c ns hns hl [] (by simp)
  have he : ([] : List Nat) ++ [3] ++ numL ns.length ++ ns.flatMap itemL = encL ns := rfl
  rw [he] at hw
  have h3 : (3 : Int) = ((3 : Nat) : Int) := rfl
  generalize encL ns = C at hw ⊢
  refine ex_nilRow 5 1 ?_
  refine zX (zZ ?_); refine xBb ?_; intro _; refine xAs ?_; refine xAs ?_; refine zY ?_; refine zX ?_; refine zX (zZ ?_); refine xLa ?_; apply zQ; rfl; rfl; rfl; (refine zK rfl rfl (zV (by kernel_rfl)) ?_; exact checkV_c _ _); refine xAs ?_; refine zY ?_; refine zX (zZ ?_); refine xMv ?_; refine xBi ?_; intro _ _; refine zY ?_; refine q_c (fun h h_k => ?_) (fun h h_k => ?_) <;> ((try subst h_k); (have hp := h; try simp only [q_n] at hp); (try (exfalso; first | omega | (cases hp; done))));
  refine zR ?_; refine zX ?_; rotate_left
  (all_goals (repeat (rename BV _ _ => hbv; first | cases hbv | clear hbv)))
  all_goals (try (first | cases ‹true = false› | cases ‹false = true›))
  rename Nat => b1
  refine ex_drawLO cellsK 9 [1, 2, 7, 0, 3, 4, 5, 6, 8] [3, 8] rfl (by kernel_rfl) rfl (by kernel_rfl) rfl ?_
  simp only [pick, List.filterMap_cons, List.filterMap_nil, List.getElem?_cons_zero, List.getElem?_cons_succ, List.take_succ_cons, List.take_zero, List.drop_succ_cons, List.drop_zero]
  refine wFa ?_; refine wLd ?_; refine wLa ?_; refine wl_eff rfl rfl rfl (zK rfl rfl (zV (by kernel_rfl)) (newWriter_c _)) ?_; rintro _ _ ⟨bw, bx, rfl, rfl⟩; refine ⟨fun e _ h => List.mem_cons_of_mem _ (List.mem_cons_of_mem _ h), ?_⟩; apply wl_is; rfl; rfl; rfl; (intro σ' hl; (apply g_nilCheck; rfl; rfl)); apply wl_is; rfl; rfl; rfl; (intro σ' hl; (apply g_indexArr; rfl; rfl; rfl; (rfl); (exact q_b rfl); rfl)); refine wFa ?_; refine wLd ?_; refine wl_eff rfl rfl rfl (zK rfl rfl (zV (by kernel_rfl)) (scall_permu (List.perm_middle (l₁ := [_, _, _])) (hw bw bx nilS _))) ?_; rintro _ _ ⟨v', rfl, rfl⟩; refine ⟨(by intro e hk hm; simp only [List.mem_cons, List.cons_append, List.nil_append] at hm ⊢; rcases hm with h | h | h | rfl | h <;> first | exact hk.elim | simp [h]), ?_⟩; simp only [List.cons_append, List.nil_append]; refine wl_nil ?_; refine xAs ?_; refine xAs ?_; refine zY ?_; refine zJ ?_; simp only [zP, zU, zT, zW, retA, ↓reduceIte, Nat.reduceEqDiff]; rotate_left
  (all_goals (repeat (rename BV _ _ => hbv; first | cases hbv | clear hbv)))
  all_goals (try (first | cases ‹true = false› | cases ‹false = true›))
  refine q_rq (σ3 := rowB v' C :: σ) ?_
  exact fin_seal .here (.tup (.here (.same .nil)) .nil) (fin_done .mk)
theorem fields_c (b : Nat) (σ : List Ent) : SCall Tryz.prog 124 [.ptr b 0] σ (Is (.agg [.ptr b 0, .ptr b 1, .ptr b 2, .ptr b 3, .ptr b 4, .ptr b 5, .ptr b 6, .ptr b 7]) σ) := by
  refine scall_of Tryz.func124 rfl (by simp) ?_
  refine zX (zZ ?_); refine xBa ?_; intro _; refine zY ?_; refine zX ?_; refine ex_drawT rfl rfl (by kernel_rfl) rfl ?_; simp only [List.length_cons, List.length_nil, Nat.reduceAdd, Nat.reduceSub, List.take_succ_cons, List.take_zero, List.drop_succ_cons, List.drop_zero]; refine wMv ?_; apply wl_is; rfl; rfl; rfl; (intro σ' hl; (apply g_nilCheck; rfl; rfl)); refine wFa ?_; refine wMv ?_; apply wl_is; rfl; rfl; rfl; (intro σ' hl; (apply g_nilCheck; rfl; rfl)); refine wFa ?_; refine wMv ?_; apply wl_is; rfl; rfl; rfl; (intro σ' hl; (apply g_nilCheck; rfl; rfl)); refine wFa ?_; refine wMv ?_; apply wl_is; rfl; rfl; rfl; (intro σ' hl; (apply g_nilCheck; rfl; rfl)); refine wFa ?_; refine wMv ?_; apply wl_is; rfl; rfl; rfl; (intro σ' hl; (apply g_nilCheck; rfl; rfl)); refine wFa ?_; refine wMv ?_; apply wl_is; rfl; rfl; rfl; (intro σ' hl; (apply g_nilCheck; rfl; rfl)); refine wFa ?_; refine wMv ?_; apply wl_is; rfl; rfl; rfl; (intro σ' hl; (apply g_nilCheck; rfl; rfl)); refine wFa ?_; refine wMv ?_; apply wl_is; rfl; rfl; rfl; (intro σ' hl; (apply g_nilCheck; rfl; rfl)); refine wFa ?_; apply wl_is; rfl; rfl; rfl; (intro σ' hl; (apply g_buildArr; rfl; rfl; rfl; rfl)); refine wl_nil ?_; refine xSt ?_; refine zY ?_; refine zJ ?_; simp only [zP, zU, zT, zW, retA, ↓reduceIte, Nat.reduceEqDiff]; rotate_left
  (all_goals (repeat (rename BV _ _ => hbv; first | cases hbv | clear hbv)))
  all_goals (try (first | cases ‹true = false› | cases ‹false = true›))
  refine q_ri ?_
  rfl
theorem slC_get {s : Sl} {k : Nat} {n : Int} (h : (fieldsL s)[k]? = some n) : (slC s)[k + 0]? = some (.int .i64 n) := by
  rw [Nat.add_zero]
  have : slC s = (fieldsL s).map (AV.int .i64) := rfl
  rw [this, List.getElem?_map, h]; rfl
theorem ptrs_get {b k : Nat} (h : k < 8) : ([.ptr b 0, .ptr b 1, .ptr b 2, .ptr b 3, .ptr b 4, .ptr b 5, .ptr b 6, .ptr b 7] : List AV)[k]? = some (.ptr b k) := by
  rcases (by omega : k = 0 ∨ k = 1 ∨ k = 2 ∨ k = 3 ∨ k = 4 ∨ k = 5 ∨ k = 6 ∨ k = 7) with rfl | rfl | rfl | rfl | rfl | rfl | rfl | rfl <;> rfl
set_option maxHeartbeats 8000000 in
theorem message_c (s : Sl) (hs : Sendable s) (σ : List Ent) : SCall Tryz.prog 84 [slV s] σ (Is (bys (msgS s)) σ) := by
  refine scall_of Tryz.func84 rfl (by simp) ?_
  have hen := encode_c (fieldsL s) hs.nats (show (8 : Nat) ≤ 100 by omega)
  rw [enc_msg] at hen
  refine zX (zZ ?_); refine xBb ?_; intro _; refine xAs ?_; refine zY ?_; refine zX (zZ ?_); apply zQ; rfl; rfl; rfl; (apply g_build; rfl; rfl; rfl; rfl); refine xBa ?_; intro _; refine xSt ?_; refine zY ?_; refine zX ?_; refine zX (zZ ?_); apply zQ; rfl; rfl; rfl; (refine zK rfl rfl (zV (by kernel_rfl)) ?_; exact fields_c _ _); refine xMv ?_; refine zY ?_; refine zL ?_; simp only [zP, zU, zT, zW, retA, ↓reduceIte, Nat.reduceEqDiff]; rotate_left
  (all_goals (repeat (rename BV _ _ => hbv; first | cases hbv | clear hbv)))
  all_goals (try (first | cases ‹true = false› | cases ‹false = true›))
  rename Nat => b3; revert b3; rename Nat => b1; revert b1
  intro b1 b3
  refine ex_nilRow 160 4 ?_
  refine ex_loop (fun (z : Nat × Value) => (⟨[(1, .ptr b1 0), (3, .ptr b3 0), (9, .agg [.ptr b1 0, .ptr b1 1, .ptr b1 2, .ptr b1 3, .ptr b1 4, .ptr b1 5, .ptr b1 6, .ptr b1 7]), (10, .int .i64 z.1)], .row z.2 160 4 (((fieldsL s).take z.1).map itC) :: .cells b3 [.int .i64 3, .int .i64 0, noStr, .slv z.2] 160 :: .cells b1 (slC s) 43 :: σ, [], Tryz.f84.ntmps⟩ : St)) (fun z => z.1 ≤ 8) (fun z => 8 - z.1) (0, nilS) (Nat.zero_le _) (St.le_of (by repeat (first | exact trivial | refine ⟨rfl, ?_⟩)) (by repeat (first | exact q_r | apply q_q | apply q_k))) ?_
  intro z hI
  obtain ⟨k, w⟩ := z
  dsimp only at hI ⊢
  have hfl : (fieldsL s).length = 8 := rfl
  by_cases hk : k < 8
  · obtain ⟨n, hn⟩ : ∃ n, (fieldsL s)[k]? = some n := get_some (by omega)
    have hg1 := slC_get hn
    have hg2 := ptrs_get (b := b1) hk
    have hst : ((fieldsL s).take (k + 1)).map itC = ((fieldsL s).take k).map itC ++ [itC n] := by rw [List.take_add_one, hn, List.map_append]; rfl
    have htl : (((fieldsL s).take k).map itC).length ≤ 8 := by rw [List.length_map, List.length_take]; omega
    clear hen hs hn
    generalize ((fieldsL s).take k).map itC = T at hst htl ⊢
    refine zX (zZ ?_); refine xBi ?_; intro _ _; refine zY ?_; refine zX ?_; refine q_c (fun h h_k => ?_) (fun h h_k => ?_) <;> ((try subst h_k); (have hp := h; try simp only [q_n] at hp); (try (exfalso; first | omega | (cases hp; done))));
    refine zR ?_; refine zX ?_; refine zL ?_; refine zX (zZ ?_); apply zQ; rfl; rfl; rfl; (apply g_index1; rfl; rfl; rfl; (rfl); (omega); (assumption)); refine xAs ?_; refine zY ?_; rotate_left
    (all_goals (repeat (rename BV _ _ => hbv; first | cases hbv | clear hbv)))
    all_goals (try (first | cases ‹true = false› | cases ‹false = true›))
    refine ex_drawLK cellsK 8 [7] rfl (by kernel_rfl) rfl ?_
    simp only [List.take_succ_cons, List.take_zero, List.drop_succ_cons, List.drop_zero]
    refine wFa ?_; refine wLd ?_; refine wMv ?_; apply wl_is; rfl; rfl; rfl; (intro σ' hl; (apply g_nilCheck; rfl; rfl)); apply wl_is; rfl; rfl; rfl; (intro σ' hl; exact g_load1 rfl rfl (.p (hl _ True.intro (by (repeat first | exact q_h | apply q_t | assumption); done)) hg1)); apply wl_is; rfl; rfl; rfl; (intro σ' hl; (apply g_build; rfl; rfl; rfl; rfl)); apply wl_is; rfl; rfl; rfl; (intro σ' hl; (exact gop_sealed (g_buildSlice rfl rfl (by decide) rfl rfl (by (simp only [chunkN, List.take_succ_cons, List.take_zero, List.drop_succ_cons, List.drop_zero]; rfl))))); refine wl_eff rfl rfl rfl (by apply g_append; rfl; rfl; rfl; (intro v'; exact (by (exact Upd.here))); (exact .d); (intro y hy; simp only [List.mem_map, List.mem_cons, List.not_mem_nil, or_false, List.mem_append] at hy; (focus (obtain ⟨_, _, rfl⟩ := hy; rfl; done))); (refine app_ok ?_ (by kernel_rfl); (try simp only [List.length_append, List.length_map, List.length_cons, List.length_nil, List.length_take, List.length_drop]); omega)) ?_; rintro _ _ ⟨v2⟩; refine ⟨upd_keepsK (fun h => h) (by (exact Upd.here)), ?_⟩; refine wl_nil ?_; refine xFa ?_; refine xSt ?_; refine zN ?_; refine zZ ?_; refine xAd ?_; refine xMv ?_; refine zN ?_; simp only [zP, zU, zT, zW, retA, ↓reduceIte, Nat.reduceEqDiff]; rotate_left
    (all_goals (repeat (rename BV _ _ => hbv; first | cases hbv | clear hbv)))
    all_goals (try (first | cases ‹true = false› | cases ‹false = true›))
    refine ⟨(k + 1, v2), hk, by dsimp only; omega, ?_⟩
    dsimp only
    rw [hst]
    exact q_le
  · have e : k = 8 := by omega
    subst e
    have hall : (fieldsL s).take 8 = fieldsL s := List.take_of_length_le (by omega)
    rw [hall]
    refine ex_shut (v := w) (env' := [(3, .ptr b3 0), (10, .int .i64 ((8 : Nat) : Int))]) .here (.cells (.same (.same (.same (.here .nil)))) (ShutEnts.refl _)) (by repeat (first | exact .nil | refine .same rfl ?_)) ?_
    generalize msgS s = C at hen ⊢
    refine zX (zZ ?_); refine xBi ?_; intro _ _; refine zY ?_; refine zX ?_; refine q_c (fun h h_k => ?_) (fun h h_k => ?_) <;> ((try subst h_k); (have hp := h; try simp only [q_n] at hp); (try (exfalso; first | omega | (cases hp; done))));
    refine ex_exit ?_; refine zX (zZ ?_); refine xLa ?_; apply zQ; rfl; rfl; rfl; (refine zK rfl rfl (zV (by kernel_rfl)) ?_; exact hen _); refine xMv ?_; refine xEx ?_; refine xEx ?_; refine xAs ?_; refine xAs ?_; refine zY ?_; refine zX (zZ ?_); refine xMv ?_; refine xAs ?_; refine zY ?_; refine zJ ?_; simp only [zP, zU, zT, zW, retA, ↓reduceIte, Nat.reduceEqDiff]; rotate_left
    (all_goals (repeat (rename BV _ _ => hbv; first | cases hbv | clear hbv)))
    all_goals (try (first | cases ‹true = false› | cases ‹false = true›))
    refine q_ri ?_
    rfl
end Go.Proofs.YtkhoengjdfmfaaaGreat
namespace Go.Proofs.YtkhoengjdfmfaaaGreat
section
variable {P : Program}
def endsA (P : Program) (fn : Func) (X : Fx) (M : Mem) (Q : AV → List Ent → Prop) : Exit → Act → World → Prop :=
  bodyPostM (fence none) 0 P fn (fun e w' => ∃ M' σ' r v, M.le M' ∧ Good X M' σ' w' ∧ VRel M' r v ∧ e = .returned v ∧ Q r σ')
structure EXD (P : Program) (fn : Func) (c : Code) (Q : AV → List Ent → Prop) (s : St) : Prop where
  run : ∀ X M0 M a w, X.dt = [] → M0.le M → Sim X M s a w → c.wpIn (fence none) 0 P (endsA P fn X M0 Q) a w
structure EXDL (P : Program) (fn : Func) (ops : Array Oper) (l : List Oper) (y : Code) (Q : AV → List Ent → Prop) (s : St) : Prop where
  run : ∀ X M0 M a w, X.dt = [] → M0.le M → Sim X M s a w → wpListIn (fence none) 0 P ops (Exit.then (fun a w => y.wpIn (fence none) 0 P (endsA P fn X M0 Q) a w) (endsA P fn X M0 Q)) l a w
def onlyA (p : St → Prop) : Exit → St → Prop
  | .normal, s => p s
  | _, _ => False
theorem exd_seq {fn : Func} {x y : Code} {Q : AV → List Ent → Prop} {s : St} (h : EX P none x (onlyA (EXD P fn y Q)) s) : EXD P fn (.seq x y) Q s := by
  refine ⟨fun X M0 M a w hX hm0 hs => wpIn_seq (Go.wpIn_mono (h.run X M a w hs) ?_)⟩
  rintro e a' w' ⟨M', s', hm, hs', hq⟩
  cases e with
  | normal => exact hq.run X M0 M' a' w' hX (Mem.le_trans hm0 hm) hs'
  | exit id => exact hq.elim
  | goto l => exact hq.elim
  | ret => exact hq.elim
  | panic ch => exact hq.elim
  | outgrown => exact hq.elim
theorem exd_region {fn : Func} {id : Nat} {l : List Oper} {y : Code} {Q : AV → List Ent → Prop} {s : St} (h : EXDL P fn l.toArray l y Q s) : EXD P fn (.seq (.region id l.toArray false) y) Q s :=
  ⟨fun X M0 M a w hX hm0 hs => wpIn_seq (wpIn_region_lit (h.run X M0 M a w hX hm0 hs))⟩
theorem exdl_op {fn : Func} {ops : Array Oper} {o : Oper} {rest : List Oper} {y : Code} {Q : AV → List Ent → Prop} {R : AV → List Ent → Prop} {s : St} (hgd : o.guard = none) (hd : dstOk o.dst s.n = true) (hg : GOp P none o s.env s.σ R)
    (h : ∀ v σ', R v σ' → EXDL P fn ops rest y Q { s with env := put o.dst v s.env, σ := σ' }) : EXDL P fn ops (o :: rest) y Q s := by
  refine ⟨fun X M0 M a w hX hm0 hs => ?_⟩
  unfold wpListIn
  rw [if_pos (by simp [Region.wanted, hgd])]
  refine hg.run X M a w hs.good (hs.env.op o) _ _ ?_
  intro M' u w' v σ' hm hgd hv hR
  exact (h v σ' hR).run X M0 M' _ w' hX (Mem.le_trans hm0 hm) (hs.put hm hgd hd hv)
theorem leaves_marks_tl {X : Fx} {M : Mem} {fn : Func} {tmps : Array Value} {R : Ending → World → Prop} {tl : List Deferred} {ds : List Nat} {σ σ1 : List Ent} (h : Marks ds σ σ1) : ∀ {w : World}, Good X M σ w → (∀ w', Good X M σ1 w' → LeavesInM (fence none) 0 P fn tmps R tl .returning w') →
    LeavesInM (fence none) 0 P fn tmps R (marksD ds ++ tl) .returning w := by
  induction h with
  | nil => intro w hg hr; exact hr w hg
  | @cons D ds σ σ1 σ2 hrem _ ih =>
    intro w hg hr
    obtain ⟨a, c, rfl, rfl⟩ := hrem.split
    have hD : w.heap[D]? = some (.deferred (some [])) := hg.ent (.obj D (.deferred (some []))) (by simp)
    refine ⟨by simp, .inl ⟨D, w.putObj D (.deferred none), rfl, run_takeDeferred hD, ih ?_ hr⟩⟩
    exact hg.rem hrem rfl rfl rfl (fun k hk => World.putObj_heap_other (fun e => hk (by simp [Ent.block, e])))
def Idle (P : Program) (f : FuncId) (k : Nat) : Prop := ∀ (ws : Array Value) (w : World), ws.size = k → CallsDIn (fence none) 0 P f ws .returning w fun e u' w' => (∃ v, e = .returned v) ∧ u' = .returning ∧ w' = w
theorem exdl_defer {fn : Func} {ops : Array Oper} {ty : TypeId} {pos : String} {after : Array Edge} {t : Tmp} {y : Code} {Q : AV → List Ent → Prop} {env : Env} {σ : List Ent} {n : Nat} {f : FuncId} {cap : List AV}
    (ht : lk env t = some (.fn (.func f) [] cap)) (he : Enters P f) (hi : Idle P f cap.length)
    (h : EX P none y (retA P fn Q) ⟨env, σ, [], n⟩) : EXDL P fn ops [⟨none, .defer { callee := .value (.tmp t), args := #[], argTypes := #[] }, ty, pos, after, none⟩] y Q ⟨env, σ, [], n⟩ := by
  refine ⟨fun X M0 M a w hX hm0 hs => ?_⟩
  unfold wpListIn
  rw [if_pos (by simp [Region.wanted])]
  obtain ⟨u, hu1, hu2⟩ := hs.env t _ ht
  simp only [VRel] at hu2
  obtain ⟨vs, ws, rfl, k1, k2⟩ := hu2
  have hvs : vs = #[] := by
    have hk := k1.length
    exact Array.eq_empty_of_size_eq_zero (by simpa using hk)
  subst hvs
  have hws : ws.size = cap.length := by have hk := k2.length; simpa using hk
  have hrun : (execOp a.eval (⟨none, .defer { callee := .value (.tmp t), args := #[], argTypes := #[] }, ty, pos, after, none⟩ : Oper)).run P w = .ok (.defer { target := .fn (.func f) ws, args := #[] }) w := by
    simp [execOp, resolve, Act.eval, Array.getD_eq_getD_getElem?, hu1, go_sem]
  refine ⟨fun f _ => about_wide f none, ?_⟩
  rw [show Oper.semAt (fence none).round a.eval (⟨none, .defer { callee := .value (.tmp t), args := #[], argTypes := #[] }, ty, pos, after, none⟩ : Oper) = execOp a.eval (⟨none, .defer { callee := .value (.tmp t), args := #[], argTypes := #[] }, ty, pos, after, none⟩ : Oper) from rfl, hrun]
  obtain ⟨X1, hX1⟩ : ∃ X1 : Fx, X1 = { X with dt := [{ target := .fn (.func f) ws, args := #[] }] } := ⟨_, rfl⟩
  have hg1 : ∀ {M σ w}, Good X M σ w → Good X1 M σ w := fun h => hX1 ▸ h.dt _
  have back : ∀ {M σ w}, Good X1 M σ w → Good X M σ w := fun h => (hX1 ▸ h : Good { X with dt := [{ target := .fn (.func f) ws, args := #[] }] } _ _ _).undt
  have hdt : X1.dt = [{ target := .fn (.func f) ws, args := #[] }] := by rw [hX1]
  have hs1 : Sim X1 M ⟨env, σ, [], n⟩ { a with defers := { target := .fn (.func f) ws, args := #[] } :: a.defers } w := ⟨hg1 hs.good, hs.size, by rw [hdt]; show _ :: a.defers = _; rw [hs.defs, hX]; rfl, hs.env⟩
  show y.wpIn (fence none) 0 P (endsA P fn X M0 Q) { a with defers := { target := .fn (.func f) ws, args := #[] } :: a.defers } w
  refine Go.wpIn_mono (h.run X1 M _ w hs1) ?_
  rintro e a' w' ⟨M', s', hm, hs', hq⟩
  have fin : RetOK P fn Q s' → LeavesInM (fence none) 0 P fn a'.tmps (fun e w' => ∃ M' σ' r v, M0.le M' ∧ Good X M' σ' w' ∧ VRel M' r v ∧ e = .returned v ∧ Q r σ') a'.defers .returning w' := by
    rintro ⟨rs, σ1, h1, h2, h3⟩
    rw [hs'.defs, hdt]
    refine leaves_marks_tl h1 hs'.good (fun w2 hg2 => ?_)
    refine ⟨by simp, .inr ⟨(fun h => by cases h), .func f, ws, f, #[] ++ ws, rfl, he _ _, fun _ _ => trivial, (hi _ _ (by simpa using hws)).mono ?_⟩⟩
    rintro e u' w3 ⟨⟨v, rfl⟩, rfl, rfl⟩
    obtain ⟨u, hu, hv⟩ := results_run h2 hg2 hs'.env
    obtain ⟨M2, σ2, r2, k1, k2, k3, k4⟩ := h3 X1 M' w3 u hg2 hv
    exact ⟨u, hu, M2, σ2, r2, u, Mem.le_trans hm0 (Mem.le_trans hm k1), back k2, k3, rfl, k4⟩
  cases e with
  | ret => exact fin hq
  | normal => exact fin hq
  | exit id => exact hq.elim
  | goto l => exact hq.elim
  | panic ch => exact hq.elim
  | outgrown => exact hq.elim
theorem scall_ofD {f : FuncId} {fn : Func} {c : Code} {args : List AV} {σ : List Ent} {Q : AV → List Ent → Prop} (hf : P.funcs[f]? = some fn) (hb : fn.body = some c) (hn : args.length ≤ fn.ntmps)
    (h : EXD P fn c Q ⟨argsEnv 0 args, σ, [], fn.ntmps⟩) : SCall P f args σ Q := by
  refine ⟨fun X0 M w vs hg0 ha => ?_⟩
  obtain ⟨X, hX⟩ : ∃ X : Fx, X = { X0 with dt := [] } := ⟨_, rfl⟩
  have hg : Good X M σ w := hX ▸ hg0.dt []
  have back : ∀ {M σ w}, Good X M σ w → Good X0 M σ w := fun h => (hX ▸ h : Good { X0 with dt := [] } _ _ _).undt
  have hl := ha.length
  simp only [Array.length_toList] at hl
  refine callsIn_wide (n := 0).1 ((callsIn_of_wp_marks (R := fun e w' => ∃ M' σ' r v, M.le M' ∧ Good X M' σ' w' ∧ VRel M' r v ∧ e = .returned v ∧ Q r σ') hf hb trivial ?_).mono ?_)
  · have hs : Sim X M ⟨argsEnv 0 args, σ, [], fn.ntmps⟩ { tmps := vs ++ Array.replicate (fn.ntmps - vs.size) undef, defers := [] } w := by
      refine ⟨hg, by simp; omega, by rw [hX]; rfl, fun t v hv => ?_⟩
      obtain ⟨_, h2⟩ := argsEnv_get _ _ _ _ hv
      obtain ⟨u, h3, h4⟩ := ha.get h2
      refine ⟨u, ?_, h4⟩
      simp only [Nat.sub_zero, Array.getElem?_toList] at h3
      have hlt : t < vs.size := by rcases Nat.lt_or_ge t vs.size with h | h; exact h; rw [Array.getElem?_eq_none h] at h3; cases h3
      rw [Array.getElem?_append_left hlt]; exact h3
    exact h.run X M M _ w (by rw [hX]) (Mem.le_refl M) hs
  · rintro e w' ⟨M', σ', r, v, h1, h2, h3⟩
    exact ⟨M', σ', r, v, h1, back h2, h3⟩
end
end Go.Proofs.YtkhoengjdfmfaaaGreat
namespace Go.Proofs.YtkhoengjdfmfaaaGreat
abbrev rdE (b : Nat) (D : List Nat) : Ent := .cells b [bys D] 185
/-- What is said of an entry's change, wherever it stands. -/
theorem scall_updI {P : Program} {f : FuncId} {args : List AV} {σ σ' : List Ent} {e e' : Ent} {r : AV} (h : ∀ σ0, SCall P f args (e :: σ0) (Is r (e' :: σ0))) (hu : Upd σ e e' σ') : SCall P f args σ (Is r σ') := by
  obtain ⟨a, c, h1, h2⟩ := hu.split
  have hp : σ.Perm (e :: (a ++ c)) := by rw [h1]; exact List.perm_middle
  refine ⟨fun X M w vs hg ha => ?_⟩
  refine Calls.mono ((h (a ++ c)).run X M w vs (hg.perm hp) ha) ?_
  rintro e0 w' ⟨M', τ, r', v, hm, hg', hr, he, hR⟩
  cases hR
  refine ⟨M', σ', r, v, hm, hg'.perm ?_, hr, he, .mk⟩
  rw [h2]
  exact List.perm_middle.symm
theorem g_slice3M {ro : Option Nat} {P : Program} {dst : Option Tmp} {ty : TypeId} {pos : String} {after : Array Edge} {guard : Option (Nat × Bool)} {env : Env} {σ : List Ent} {α : Type} {f : α → List AV} {t e : TypeId} {sz k : Nat} {x hi mx : Operand} {L : List α} {hj mj : Int} (ht : elemOf P t = some (e, sz)) (hx : evA env x = some (.dl sz (L.map f))) (hhi : boundA env 0 (some hi) = some hj) (hmx : boundA env 0 (some mx) = some mj) (hh : hj = (k : Int)) (hm : mj = (k : Int)) (hk : k ≤ L.length) :
    GOp P ro ⟨dst, .slice t x none (some hi) (some mx), ty, pos, after, guard⟩ env σ (Is (.dl sz ((L.take k).map f)) σ) := by
  rw [List.map_take]
  exact g_slice3D ht hx hhi hmx hh hm (by rw [List.length_map]; exact hk)
theorem want_c (p : AV) (σ : List Ent) : SCall Tryz.prog 148 [p, .bool true] σ (Is (.tup []) σ) := by
  refine scall_of Tryz.func148 rfl (by simp) ?_
  refine zX (zZ ?_); refine xMv ?_; refine xNo ?_; intro _ _; refine zY ?_; refine q_c (fun h h_k => ?_) (fun h h_k => ?_) <;> ((try subst h_k); (have hp := h; try simp only [q_n] at hp); (try (exfalso; first | omega | (cases hp; done))));
  refine zR ?_; simp only [zP, zU, zT, zW, retA, ↓reduceIte, Nat.reduceEqDiff]; rotate_left
  (all_goals (repeat (rename BV _ _ => hbv; first | cases hbv | clear hbv)))
  all_goals (try (first | cases ‹true = false› | cases ‹false = true›))
  refine q_rq (σ3 := σ) ?_
  exact fin_done .mk
set_option maxHeartbeats 4000000 in
theorem take_c (b n : Nat) (D : List Nat) (hn : n ≤ D.length) (hD : D.length ≤ 100000) (σ : List Ent) :
    SCall Tryz.prog 158 [.ptr b 0, .int .i64 n] (rdE b D :: σ) (Is (bys (D.take n)) (rdE b (D.drop n) :: σ)) := by
  refine scall_of Tryz.func158 rfl (by simp) ?_
  have hle : decide ((n : Int) ≤ (D.length : Int)) = true := decide_eq_true (by omega)
  have hw : ∀ p σ, SCall Tryz.prog 148 [p, .bool (decide ((n : Int) ≤ (D.length : Int)))] σ (Is (.tup []) σ) := by rw [hle]; exact want_c
  refine zX (zZ ?_); refine xAs ?_; refine zY ?_; refine zX (zZ ?_); refine xMv ?_; refine xMv ?_; refine xMv ?_; apply zQ; rfl; rfl; rfl; (apply g_nilCheck; rfl; rfl); refine xFa ?_; refine xLd ?_; refine xLn ?_; refine xBi ?_; intro _ _; rotate_left
  (all_goals (repeat (rename BV _ _ => hbv; first | cases hbv | clear hbv)))
  all_goals (try (first | cases ‹true = false› | cases ‹false = true›))
  refine zQ rfl rfl rfl (zK rfl rfl (zV (by kernel_rfl)) (hw _ _)) ?_
  refine zY ?_; refine zX (zZ ?_); refine xMv ?_; apply zQ; rfl; rfl; rfl; (apply g_nilCheck; rfl; rfl); refine xFa ?_; refine xLd ?_; refine xMv ?_; refine xMv ?_; apply zQ; rfl; rfl; rfl; (exact g_slice3M rfl rfl rfl rfl rfl rfl hn); refine xAs ?_; refine zY ?_; refine zX (zZ ?_); refine xMv ?_; refine xMv ?_; apply zQ; rfl; rfl; rfl; (apply g_nilCheck; rfl; rfl); refine xFa ?_; refine xLd ?_; refine xMv ?_; apply zQ; rfl; rfl; rfl; (apply g_sliceLo; rfl; rfl; rfl; (rfl); omega); apply zQ; rfl; rfl; rfl; (apply g_nilCheck; rfl; rfl); refine xFa ?_; refine xSt ?_; refine zY ?_; refine zX (zZ ?_); refine xMv ?_; refine xAs ?_; refine zY ?_; refine zJ ?_; simp only [zP, zU, zT, zW, retA, ↓reduceIte, Nat.reduceEqDiff]; rotate_left
  (all_goals (repeat (rename BV _ _ => hbv; first | cases hbv | clear hbv)))
  all_goals (try (first | cases ‹true = false› | cases ‹false = true›))
  refine q_rq (σ3 := rdE b (D.drop n) :: σ) ?_
  exact fin_done .mk
theorem take_at {b n : Nat} {D : List Nat} (hn : n ≤ D.length) (hD : D.length ≤ 100000) {σ σ' : List Ent} (hu : Upd σ (rdE b D) (rdE b (D.drop n)) σ') :
    SCall Tryz.prog 158 [.ptr b 0, .int .i64 n] σ (Is (bys (D.take n)) σ') := scall_updI (take_c b n D hn hD) hu
theorem take1_at {b x : Nat} {D : List Nat} (hD : D.length ≤ 90000) {σ σ' : List Ent} (hu : Upd σ (rdE b (x :: D)) (rdE b D) σ') :
    SCall Tryz.prog 158 [.ptr b 0, .int .i64 1] σ (Is (bys [x]) σ') := take_at (n := 1) (D := x :: D) (by simp) (by simp; omega) hu
set_option maxHeartbeats 4000000 in
theorem signed_c (n : Nat) (hn : n ≤ 1073741824) (σ : List Ent) : SCall Tryz.prog 159 [.int .u64 ((2 * n : Nat) : Int)] σ (Is (.int .i64 n) σ) := by
  refine scall_of Tryz.func159 rfl (by simp) ?_
  have hone : (1 : Int) = ((1 : Nat) : Int) := rfl
  have h1 : IntKind.i64.wrap ((n : Nat) : Int) = ((n : Nat) : Int) := by rw [IntKind.wrap_i64]; omega
  have h0 : IntKind.i64.wrap ((0 : Nat) : Int) = ((0 : Nat) : Int) := by rw [IntKind.wrap_i64]; omega
  have hz : (2 * n) &&& 1 = 0 := by rw [Nat.and_one_is_mod]; omega
  have hx : n ^^^ 0 = n := Nat.xor_zero _
  refine zX (zZ ?_); refine xAs ?_; refine zY ?_; refine zX (zZ ?_); refine xMv ?_; apply zQ; rfl; rfl; rfl; (exact g_shrU rfl rfl rfl hone (by omega) (show 2 * n / 2 ^ 1 = n by omega)); apply zQ; rfl; rfl; rfl; (apply g_conv64; rfl; rfl; rfl; exact ⟨by omega, by omega⟩); refine xMv ?_; apply zQ; rfl; rfl; rfl; (exact g_andU rfl rfl rfl hone (by omega) (by omega) hz); apply zQ; rfl; rfl; rfl; (apply g_conv64; rfl; rfl; rfl; exact ⟨by omega, by omega⟩); apply zQ; rfl; rfl; rfl; (apply g_neg; rfl; rfl; exact ⟨by omega, by omega⟩); apply zQ; rfl; rfl; rfl; (exact hx ▸ g_xorN rfl rfl (n := 0) rfl (by rfl) (by omega) (by omega)); refine xAs ?_; refine zY ?_; refine zJ ?_; simp only [zP, zU, zT, zW, retA, ↓reduceIte, Nat.reduceEqDiff]; rotate_left
  (all_goals (repeat (rename BV _ _ => hbv; first | cases hbv | clear hbv)))
  all_goals (try (first | cases ‹true = false› | cases ‹false = true›))
  refine q_ri ?_
  rfl
theorem want_q (p : AV) {q : Bool} (hq : q = true) (σ : List Ent) : SCall Tryz.prog 148 [p, .bool q] σ (Is (.tup []) σ) := by subst hq; exact want_c p σ
set_option maxHeartbeats 8000000 in
theorem number_c (b u0 : Nat) (D : List Nat) (hu : u0 < 34359738368) (hD : D.length ≤ 80000) (σ : List Ent) :
    SCall Tryz.prog 160 [.ptr b 0] (rdE b (numL u0 ++ D) :: σ) (Is (.int .u64 u0) (rdE b D :: σ)) := by
  refine scall_of Tryz.func160 rfl (by simp) ?_
  refine zX (zZ ?_); refine xAs ?_; refine zY ?_; refine zX (zZ ?_); refine xAs ?_; refine zY ?_; refine zL ?_; rotate_left
  (all_goals (repeat (rename BV _ _ => hbv; first | cases hbv | clear hbv)))
  all_goals (try (first | cases ‹true = false› | cases ‹false = true›))
  refine ex_loop (fun (z : Nat × Nat × Nat) => (⟨[(0, .ptr b 0), (2, .int .u64 z.2.2), (3, .int .i64 z.1)], rdE b (numL z.2.1 ++ D) :: σ, [], Tryz.f160.ntmps⟩ : St)) (fun z => z.1 ≤ 4 ∧ z.2.1 = u0 / 2 ^ (7 * z.1) ∧ z.2.2 = u0 % 2 ^ (7 * z.1) ∧ (z.1 = 0 ∨ 0 < z.2.1)) (fun z => 5 - z.1) (0, u0, 0) (⟨by omega, by simp, by simp [Nat.mod_one], .inl rfl⟩) (St.le_of (by repeat (first | exact trivial | refine ⟨rfl, ?_⟩)) (by repeat (first | exact q_r | apply q_q | apply q_k))) ?_
  intro z hI
  obtain ⟨i, u, r⟩ := z
  obtain ⟨hI1, hI2, hI3, hI4⟩ := hI
  dsimp only at hI1 hI2 hI3 hI4 ⊢
  have hp28 : 2 ^ (7 * i) ≤ 2 ^ 28 := Nat.pow_le_pow_right (by omega) (by omega)
  have hpos : 0 < 2 ^ (7 * i) := Nat.two_pow_pos _
  have hr : r < 2 ^ (7 * i) := by rw [hI3]; exact Nat.mod_lt _ hpos
  obtain ⟨X, hX⟩ : ∃ X, u % 128 * 2 ^ (7 * i) = X := ⟨_, rfl⟩
  have hXl : X < 18446744073709551616 := by
    have h1 : u % 128 * 2 ^ (7 * i) ≤ 127 * 2 ^ 28 := Nat.mul_le_mul (by omega) hp28
    omega
  have hor : r ||| X = u0 % 2 ^ (7 * (i + 1)) := by
    have h1 := or_add (c := u % 128) hr
    rw [Nat.shiftLeft_eq, hX] at h1
    have h2 := mod_step u0 i
    rw [← hI2, ← hI3, hX] at h2
    rw [h1, h2]
  have h127 : (127 : Int) = ((127 : Nat) : Int) := rfl
  have h7i : (7 : Int) * (i : Int) = ((7 * i : Nat) : Int) := by omega
  have hand : ∀ c : Nat, c &&& 127 = c % 128 := fun c => Nat.and_two_pow_sub_one_eq_mod (n := 7) c
  have hcv : IntKind.u64.wrap ((u % 128 : Nat) : Int) = ((u % 128 : Nat) : Int) := wrapU64 (by omega)
  have hr2 : r < 18446744073709551616 := by omega
  by_cases hw : u < 128
  · have hend : u0 % 2 ^ (7 * (i + 1)) = u0 := by
      refine Nat.mod_eq_of_lt ?_
      rw [show 7 * (i + 1) = 7 * i + 7 by omega, Nat.pow_add]
      have h1 : u0 / 2 ^ (7 * i) < 128 := hI2 ▸ hw
      have h2 := (Nat.div_lt_iff_lt_mul hpos).1 h1
      rw [Nat.mul_comm]; exact h2
    rw [hend] at hor
    rw [numL_lo hw, List.singleton_append]
    have hx : ([u].map b8C)[0]? = some (b8C u) := rfl
    have hc : u &&& 127 = u % 128 := hand u
    clear hI2 hI3 hp28 hpos hr hend
    refine zX ?_; refine zL ?_; refine zX (zZ ?_); refine xMv ?_; apply zQ; rfl; rfl; rfl; (refine zK rfl rfl (zV (by kernel_rfl)) ?_; exact take1_at (x := u) (D := D) (by omega) (by (exact Upd.here))); refine xIx ?_; refine xLd ?_; refine xAs ?_; refine zY ?_; refine zX (zZ ?_); refine xMv ?_; refine xMv ?_; refine xBi ?_; intro _ _; refine xMv ?_; refine q_d (fun h h_k => ?_) (fun h h_k => ?_) <;> ((try subst h_k); (have hp := h; try simp only [q_n] at hp); (try (exfalso; first | omega | (cases hp; done))));
    refine xSk ?_; refine xSk ?_; refine xPt ?_; refine xMv ?_; refine yMv ?_; refine yBi ?_; intro _ _; refine yMv ?_; refine q_d (fun h h_k => ?_) (fun h h_k => ?_) <;> ((try subst h_k); (have hp := h; try simp only [q_n] at hp); (try (exfalso; first | omega | (cases hp; done))));
    refine xSk ?_; refine xSk ?_; apply exl_isW; rfl; (rfl); rfl; rfl; (apply g_pick_t; rfl; (rfl); rfl); refine xPt ?_; apply zQ; rfl; rfl; rfl; (refine zK rfl rfl (zV (by kernel_rfl)) ?_; exact want_c _ _); refine zY ?_; refine zX (zZ ?_); refine xMv ?_; refine xMv ?_; apply zQ; rfl; rfl; rfl; (exact g_and8 rfl rfl rfl h127 (by omega) (by omega) hc); apply zQ; rfl; rfl; rfl; (exact g_conv rfl rfl rfl hcv); refine xMv ?_; apply zQ; rfl; rfl; rfl; (apply g_mul; rfl; rfl; rfl; exact ⟨by omega, by omega⟩); apply zQ; rfl; rfl; rfl; (exact g_shlU rfl rfl rfl h7i (by omega) hX hXl); apply zQ; rfl; rfl; rfl; (exact g_orU rfl rfl rfl rfl hr2 hXl hor); refine xAs ?_; refine zY ?_; refine zX (zZ ?_); refine xMv ?_; refine xBi ?_; intro _ _; refine zY ?_; refine q_c (fun h h_k => ?_) (fun h h_k => ?_) <;> ((try subst h_k); (have hp := h; try simp only [q_n] at hp); (try (exfalso; first | omega | (cases hp; done))));
    refine zX (zZ ?_); refine xMv ?_; refine xAs ?_; refine zY ?_; refine zJ ?_; simp only [zP, zU, zT, zW, retA, ↓reduceIte, Nat.reduceEqDiff]; rotate_left; refine yMv ?_; refine yBi ?_; intro _ _; refine xPf ?_; refine xMv ?_; refine q_d (fun h h_k => ?_) (fun h h_k => ?_) <;> ((try subst h_k); (have hp := h; try simp only [q_n] at hp); (try (exfalso; first | omega | (cases hp; done))));
    refine yMv ?_; refine yBi ?_; intro _ _; refine yMv ?_; refine q_d (fun h h_k => ?_) (fun h h_k => ?_) <;> ((try subst h_k); (have hp := h; try simp only [q_n] at hp); (try (exfalso; first | omega | (cases hp; done))));
    refine xSk ?_; refine xSk ?_; apply exl_isW; rfl; (rfl); rfl; rfl; (apply g_pick_t; rfl; (rfl); rfl); refine xPt ?_; apply zQ; rfl; rfl; rfl; (refine zK rfl rfl (zV (by kernel_rfl)) ?_; exact want_c _ _); refine zY ?_; refine zX (zZ ?_); refine xMv ?_; refine xMv ?_; apply zQ; rfl; rfl; rfl; (exact g_and8 rfl rfl rfl h127 (by omega) (by omega) hc); apply zQ; rfl; rfl; rfl; (exact g_conv rfl rfl rfl hcv); refine xMv ?_; apply zQ; rfl; rfl; rfl; (apply g_mul; rfl; rfl; rfl; exact ⟨by omega, by omega⟩); apply zQ; rfl; rfl; rfl; (exact g_shlU rfl rfl rfl h7i (by omega) hX hXl); apply zQ; rfl; rfl; rfl; (exact g_orU rfl rfl rfl rfl hr2 hXl hor); refine xAs ?_; refine zY ?_; refine zX (zZ ?_); refine xMv ?_; refine xBi ?_; intro _ _; refine zY ?_; refine q_c (fun h h_k => ?_) (fun h h_k => ?_) <;> ((try subst h_k); (have hp := h; try simp only [q_n] at hp); (try (exfalso; first | omega | (cases hp; done))));
    refine zX (zZ ?_); refine xMv ?_; refine xAs ?_; refine zY ?_; refine zJ ?_; simp only [zP, zU, zT, zW, retA, ↓reduceIte, Nat.reduceEqDiff]; rotate_left
    (all_goals (repeat (rename BV _ _ => hbv; first | cases hbv | clear hbv)))
    all_goals (try (first | cases ‹true = false› | cases ‹false = true›))
    all_goals
      refine q_rq (σ3 := rdE b D :: σ) ?_
      exact fin_done .mk
  · have hi4 : i < 4 := by
      refine Nat.lt_of_not_le (fun h => hw ?_)
      have e : i = 4 := by omega
      rw [hI2, e]; omega
    have hnx : u / 128 = u0 / 2 ^ (7 * (i + 1)) := by rw [hI2, Nat.div_div_eq_div_mul, show 7 * (i + 1) = 7 * i + 7 by omega, Nat.pow_add]
    rw [numL_hi hw, List.cons_append]
    have hx : ([u % 128 + 128].map b8C)[0]? = some (b8C (u % 128 + 128)) := rfl
    have hc : (u % 128 + 128) &&& 127 = u % 128 := by rw [hand]; omega
    have hnl : (numL (u / 128) ++ D).length ≤ 90000 := by
      have := numL_len (k := 4) (u := u / 128) (by rw [hnx]; exact Nat.lt_of_le_of_lt (Nat.div_le_self _ _) hu)
      rw [List.length_append]; omega
    clear hI2 hI3 hp28 hpos hr
    obtain ⟨E, hE⟩ : ∃ E, numL (u / 128) ++ D = E := ⟨_, rfl⟩
    rw [hE] at hnl ⊢
    refine zX ?_; refine zL ?_; refine zX (zZ ?_); refine xMv ?_; apply zQ; rfl; rfl; rfl; (refine zK rfl rfl (zV (by kernel_rfl)) ?_; exact take1_at (x := u % 128 + 128) (D := E) hnl (by (exact Upd.here))); refine xIx ?_; refine xLd ?_; refine xAs ?_; refine zY ?_; refine zX (zZ ?_); refine xMv ?_; refine xMv ?_; refine xBi ?_; intro _ _; refine xMv ?_; refine q_d (fun h h_k => ?_) (fun h h_k => ?_) <;> ((try subst h_k); (have hp := h; try simp only [q_n] at hp); (try (exfalso; first | omega | (cases hp; done))));
    refine xSk ?_; refine xSk ?_; refine xPt ?_; refine xMv ?_; refine yMv ?_; refine yBi ?_; intro _ _; refine yMv ?_; refine q_d (fun h h_k => ?_) (fun h h_k => ?_) <;> ((try subst h_k); (have hp := h; try simp only [q_n] at hp); (try (exfalso; first | omega | (cases hp; done))));
    refine xSk ?_; refine xSk ?_; apply exl_isW; rfl; (rfl); rfl; rfl; (apply g_pick_t; rfl; (rfl); rfl); refine xPt ?_; apply zQ; rfl; rfl; rfl; (refine zK rfl rfl (zV (by kernel_rfl)) ?_; exact want_c _ _); refine zY ?_; refine zX (zZ ?_); refine xMv ?_; refine xMv ?_; apply zQ; rfl; rfl; rfl; (exact g_and8 rfl rfl rfl h127 (by omega) (by omega) hc); apply zQ; rfl; rfl; rfl; (exact g_conv rfl rfl rfl hcv); refine xMv ?_; apply zQ; rfl; rfl; rfl; (apply g_mul; rfl; rfl; rfl; exact ⟨by omega, by omega⟩); apply zQ; rfl; rfl; rfl; (exact g_shlU rfl rfl rfl h7i (by omega) hX hXl); apply zQ; rfl; rfl; rfl; (exact g_orU rfl rfl rfl rfl hr2 hXl hor); refine xAs ?_; refine zY ?_; refine zX (zZ ?_); refine xMv ?_; refine xBi ?_; intro _ _; refine zY ?_; refine q_c (fun h h_k => ?_) (fun h h_k => ?_) <;> ((try subst h_k); (have hp := h; try simp only [q_n] at hp); (try (exfalso; first | omega | (cases hp; done))));
    refine zR ?_; refine zZ ?_; refine xMv ?_; refine xAd ?_; refine xAs ?_; refine zN ?_; simp only [zP, zU, zT, zW, retA, ↓reduceIte, Nat.reduceEqDiff]; rotate_left; refine yMv ?_; refine yBi ?_; intro _ _; refine xPf ?_; refine xMv ?_; refine q_d (fun h h_k => ?_) (fun h h_k => ?_) <;> ((try subst h_k); (have hp := h; try simp only [q_n] at hp); (try (exfalso; first | omega | (cases hp; done))));
    refine yMv ?_; refine yBi ?_; intro _ _; refine yMv ?_; refine q_d (fun h h_k => ?_) (fun h h_k => ?_) <;> ((try subst h_k); (have hp := h; try simp only [q_n] at hp); (try (exfalso; first | omega | (cases hp; done))));
    refine xSk ?_; refine xSk ?_; apply exl_isW; rfl; (rfl); rfl; rfl; (apply g_pick_t; rfl; (rfl); rfl); refine xPt ?_; apply zQ; rfl; rfl; rfl; (refine zK rfl rfl (zV (by kernel_rfl)) ?_; exact want_c _ _); refine zY ?_; refine zX (zZ ?_); refine xMv ?_; refine xMv ?_; apply zQ; rfl; rfl; rfl; (exact g_and8 rfl rfl rfl h127 (by omega) (by omega) hc); apply zQ; rfl; rfl; rfl; (exact g_conv rfl rfl rfl hcv); refine xMv ?_; apply zQ; rfl; rfl; rfl; (apply g_mul; rfl; rfl; rfl; exact ⟨by omega, by omega⟩); apply zQ; rfl; rfl; rfl; (exact g_shlU rfl rfl rfl h7i (by omega) hX hXl); apply zQ; rfl; rfl; rfl; (exact g_orU rfl rfl rfl rfl hr2 hXl hor); refine xAs ?_; refine zY ?_; refine zX (zZ ?_); refine xMv ?_; refine xBi ?_; intro _ _; refine zY ?_; refine q_c (fun h h_k => ?_) (fun h h_k => ?_) <;> ((try subst h_k); (have hp := h; try simp only [q_n] at hp); (try (exfalso; first | omega | (cases hp; done))));
    refine zR ?_; refine zZ ?_; refine xMv ?_; refine xAd ?_; refine xAs ?_; refine zN ?_; simp only [zP, zU, zT, zW, retA, ↓reduceIte, Nat.reduceEqDiff]; rotate_left
    (all_goals (repeat (rename BV _ _ => hbv; first | cases hbv | clear hbv)))
    all_goals (try (first | cases ‹true = false› | cases ‹false = true›))
    all_goals
      refine ⟨(i + 1, u / 128, u0 % 2 ^ (7 * (i + 1))), ⟨hi4, hnx, rfl, .inr (by dsimp only; omega)⟩, by dsimp only; omega, ?_⟩
      dsimp only
      rw [hE]
      exact q_le
end Go.Proofs.YtkhoengjdfmfaaaGreat
namespace Go.Proofs.YtkhoengjdfmfaaaGreat
set_option maxHeartbeats 8000000 in
theorem length_c (b n : Nat) (D : List Nat) (hn : n ≤ D.length) (hD : D.length ≤ 80000) (σ : List Ent) :
    SCall Tryz.prog 161 [.ptr b 0] (rdE b (numL n ++ D) :: σ) (Is (.int .i64 n) (rdE b D :: σ)) := by
  refine scall_of Tryz.func161 rfl (by simp) ?_
  have hq : decide ((n : Int) ≤ (D.length : Int)) = true := decide_eq_true (by omega)
  have hcv : IntKind.u64.wrap ((D.length : Nat) : Int) = ((D.length : Nat) : Int) := wrapU64 (by omega)
  have hcn : IntKind.i64.wrap ((n : Nat) : Int) = ((n : Nat) : Int) := by rw [IntKind.wrap_i64]; omega
  refine zX (zZ ?_); refine xAs ?_; refine zY ?_; refine zX (zZ ?_); refine xMv ?_; apply zQ; rfl; rfl; rfl; (refine zK rfl rfl (zV (by kernel_rfl)) ?_; exact number_c b n D (by omega) hD _); refine xAs ?_; refine zY ?_; refine zX (zZ ?_); refine xMv ?_; refine xMv ?_; refine xMv ?_; apply zQ; rfl; rfl; rfl; (apply g_nilCheck; rfl; rfl); refine xFa ?_; refine xLd ?_; refine xLn ?_; apply zQ; rfl; rfl; rfl; (exact g_conv rfl rfl rfl hcv); refine xBi ?_; intro _ _; rotate_left
  (all_goals (repeat (rename BV _ _ => hbv; first | cases hbv | clear hbv)))
  all_goals (try (first | cases ‹true = false› | cases ‹false = true›))
  refine zQ rfl rfl rfl (zK rfl rfl (zV (by kernel_rfl)) (want_q _ hq _)) ?_
  refine zY ?_; refine zX (zZ ?_); refine xMv ?_; apply zQ; rfl; rfl; rfl; (apply g_conv64; rfl; rfl; rfl; exact ⟨by omega, by omega⟩); refine xAs ?_; refine zY ?_; refine zJ ?_; simp only [zP, zU, zT, zW, retA, ↓reduceIte, Nat.reduceEqDiff]; rotate_left
  (all_goals (repeat (rename BV _ _ => hbv; first | cases hbv | clear hbv)))
  all_goals (try (first | cases ‹true = false› | cases ‹false = true›))
  refine q_rq (σ3 := rdE b D :: σ) ?_
  exact fin_done .mk
theorem number_at {b u0 : Nat} {D : List Nat} (hu : u0 < 34359738368) (hD : D.length ≤ 80000) {σ σ' : List Ent} (h : Upd σ (rdE b (numL u0 ++ D)) (rdE b D) σ') :
    SCall Tryz.prog 160 [.ptr b 0] σ (Is (.int .u64 u0) σ') := scall_updI (number_c b u0 D hu hD) h
theorem length_at {b n : Nat} {D : List Nat} (hn : n ≤ D.length) (hD : D.length ≤ 80000) {σ σ' : List Ent} (h : Upd σ (rdE b (numL n ++ D)) (rdE b D) σ') :
    SCall Tryz.prog 161 [.ptr b 0] σ (Is (.int .i64 n) σ') := scall_updI (length_c b n D hn hD) h
set_option maxHeartbeats 8000000 in
theorem valueI_c (b m : Nat) (d : Int) (D : List Nat) (hm : m ≤ 1073741824) (hD : D.length ≤ 70000) (σ : List Ent) :
    SCall Tryz.prog 147 [.ptr b 0, .int .i64 d] (rdE b (1 :: (numL (2 * m) ++ D)) :: σ) (Is (.agg (itC m)) (rdE b D :: σ)) := by
  refine scall_of Tryz.func147 rfl (by simp) ?_
  have hx : ([1].map b8C)[0]? = some (b8C 1) := rfl
  have hcv : IntKind.i64.wrap ((1 : Nat) : Int) = ((1 : Nat) : Int) := by rw [IntKind.wrap_i64]; omega
  have hnl : (numL (2 * m) ++ D).length ≤ 90000 := by
    have := numL_len (k := 4) (u := 2 * m) (by omega)
    rw [List.length_append]; omega
  obtain ⟨E, hE⟩ : ∃ E, numL (2 * m) ++ D = E := ⟨_, rfl⟩
  rw [hE] at hnl ⊢
  have hnu : ∀ {σ σ' : List Ent}, Upd σ (rdE b E) (rdE b D) σ' → SCall Tryz.prog 160 [.ptr b 0] σ (Is (.int .u64 ((2 * m : Nat) : Int)) σ') := fun h => by
    rw [← hE] at h; exact number_at (by omega) (by omega) h
  clear hE
  refine zX (zZ ?_); refine xBa ?_; intro _; refine zY ?_; refine zX (zZ ?_); refine xMv ?_; apply zQ; rfl; rfl; rfl; (refine zK rfl rfl (zV (by kernel_rfl)) ?_; exact take1_at (x := 1) (D := E) hnl (by (exact Upd.there (Upd.here)))); refine xIx ?_; refine xLd ?_; apply zQ; rfl; rfl; rfl; (apply g_conv64; rfl; rfl; rfl; exact ⟨by omega, by omega⟩); refine xFa ?_; refine xSt ?_; refine zY ?_; refine zX ?_; refine zX (zZ ?_); refine xFa ?_; refine xLd ?_; refine zY ?_; refine zL ?_; refine zX (zZ ?_); refine xBi ?_; intro _ _; refine xAs ?_; refine zY ?_; refine q_c (fun h h_k => ?_) (fun h h_k => ?_) <;> ((try subst h_k); (have hp := h; try simp only [q_n] at hp); (try (exfalso; first | omega | (cases hp; done))));
  refine zZ ?_; refine xMv ?_; apply zQ; rfl; rfl; rfl; (refine zK rfl rfl (zV (by kernel_rfl)) ?_; exact hnu (by (exact Upd.there (Upd.here)))); apply zQ; rfl; rfl; rfl; (refine zK rfl rfl (zV (by kernel_rfl)) ?_; exact signed_c m hm _); refine xFa ?_; refine xSt ?_; refine zN ?_; refine zX (zZ ?_); refine xLa ?_; refine xSt ?_; refine zY ?_; refine zJ ?_; simp only [zP, zU, zT, zW, retA, ↓reduceIte, Nat.reduceEqDiff]; rotate_left
  (all_goals (repeat (rename BV _ _ => hbv; first | cases hbv | clear hbv)))
  all_goals (try (first | cases ‹true = false› | cases ‹false = true›))
  refine q_rq (σ3 := rdE b D :: σ) ?_
  exact fin_done .mk
end Go.Proofs.YtkhoengjdfmfaaaGreat
namespace Go.Proofs.YtkhoengjdfmfaaaGreat
section
variable {α : Type}
def swp2 (L : List α) (i j : Nat) : List α := match L[i]?, L[j]? with
  | some x, some y => (L.set i y).set j x
  | _, _ => L
theorem set_app {A B : List α} {x y : α} : (A ++ x :: B).set A.length y = A ++ y :: B := by simp
theorem swp2_app {A B C : List α} {x y : α} : swp2 (A ++ x :: B ++ y :: C) A.length (A.length + 1 + B.length) = A ++ y :: B ++ x :: C := by
  have h1 : (A ++ x :: B ++ y :: C)[A.length]? = some x := by simp
  have h2 : (A ++ x :: B ++ y :: C)[A.length + 1 + B.length]? = some y := by
    rw [show A ++ x :: B ++ y :: C = (A ++ x :: B) ++ y :: C by simp, List.getElem?_append_right (by simp; omega)]
    simp [show A.length + 1 + B.length - (A.length + (B.length + 1)) = 0 by omega]
  unfold swp2
  rw [h1, h2]
  dsimp only
  rw [show A ++ x :: B ++ y :: C = A ++ x :: (B ++ y :: C) by simp, set_app]
  have e : A ++ y :: (B ++ y :: C) = (A ++ y :: B) ++ y :: C := by simp
  rw [e, show A.length + 1 + B.length = (A ++ y :: B).length by simp; omega, set_app]
theorem swp2_up {A C : List α} {x y : α} : swp2 (A ++ x :: y :: C) A.length (A.length + 1) = A ++ y :: x :: C := by
  have := swp2_app (A := A) (B := []) (C := C) (x := x) (y := y)
  simpa using this
theorem swp2_down {A C : List α} {x y : α} : swp2 (A ++ x :: y :: C) (A.length + 1) A.length = A ++ y :: x :: C := by
  have h1 : (A ++ x :: y :: C)[A.length]? = some x := by simp
  have h2 : (A ++ x :: y :: C)[A.length + 1]? = some y := by
    rw [List.getElem?_append_right (by omega)]; simp
  have h3 := swp2_up (A := A) (C := C) (x := x) (y := y)
  unfold swp2 at h3 ⊢
  rw [h1, h2] at h3 ⊢
  dsimp only at h3 ⊢
  rw [List.set_comm _ _ (by omega)]; exact h3
theorem swap_range {A X B Y C : List α} (h : X.length = Y.length) {k : Nat} (hk : k < X.length) :
    swp2 (A ++ (Y.take k ++ X.drop k) ++ B ++ (X.take k ++ Y.drop k) ++ C) (A.length + k) (A.length + X.length + B.length + k) = A ++ (Y.take (k + 1) ++ X.drop (k + 1)) ++ B ++ (X.take (k + 1) ++ Y.drop (k + 1)) ++ C := by
  obtain ⟨x, hx⟩ : ∃ x, X[k]? = some x := get_some hk
  obtain ⟨y, hy⟩ : ∃ y, Y[k]? = some y := get_some (by omega)
  have dx : X.drop k = x :: X.drop (k + 1) := by
    obtain ⟨h1, h2⟩ := List.getElem?_eq_some_iff.1 hx
    rw [List.drop_eq_getElem_cons h1, h2]
  have dy : Y.drop k = y :: Y.drop (k + 1) := by
    obtain ⟨h1, h2⟩ := List.getElem?_eq_some_iff.1 hy
    rw [List.drop_eq_getElem_cons h1, h2]
  have tx : X.take (k + 1) = X.take k ++ [x] := by rw [List.take_add_one, hx]; rfl
  have ty : Y.take (k + 1) = Y.take k ++ [y] := by rw [List.take_add_one, hy]; rfl
  rw [dx, dy, tx, ty]
  have l1 : (A ++ Y.take k).length = A.length + k := by simp; omega
  have l2 : (A ++ Y.take k).length + 1 + (X.drop (k + 1) ++ B ++ X.take k).length = A.length + X.length + B.length + k := by simp; omega
  have := swp2_app (A := A ++ Y.take k) (B := X.drop (k + 1) ++ B ++ X.take k) (C := Y.drop (k + 1) ++ C) (x := x) (y := y)
  rw [l2, l1] at this
  have e1 : A ++ (Y.take k ++ x :: X.drop (k + 1)) ++ B ++ (X.take k ++ y :: Y.drop (k + 1)) ++ C = A ++ Y.take k ++ x :: (X.drop (k + 1) ++ B ++ X.take k) ++ y :: (Y.drop (k + 1) ++ C) := by simp
  have e2 : A ++ (Y.take k ++ [y] ++ X.drop (k + 1)) ++ B ++ (X.take k ++ [x] ++ Y.drop (k + 1)) ++ C = A ++ Y.take k ++ y :: (X.drop (k + 1) ++ B ++ X.take k) ++ x :: (Y.drop (k + 1) ++ C) := by simp
  rw [e1, e2]; exact this
end
def Left (X Y : List Ey) : Prop := ∀ x ∈ X, ∀ y ∈ Y, x.2.hour = y.2.hour → x.1 < y.1
theorem left_lt {X Y : List Ey} (h : Left X Y) {x y : Ey} (hx : x ∈ X) (hy : y ∈ Y) : (y.2.hour < x.2.hour ↔ ltE y x) ∧ (¬ y.2.hour < x.2.hour ↔ ltE x y) := by
  have := h x hx y hy
  unfold ltE
  constructor <;> constructor <;> intro h <;> omega
structure MergedE (X Y S : List Ey) : Prop where
  perm : S.Perm (X ++ Y)
  up : S.Pairwise ltE
theorem merged_two {A B C D S T : List Ey} (h1 : MergedE A C S) (h2 : MergedE B D T) (hx : ∀ x ∈ A ++ C, ∀ y ∈ B ++ D, ltE x y) : MergedE (A ++ B) (C ++ D) (S ++ T) := by
  refine ⟨?_, List.pairwise_append.2 ⟨h1.up, h2.up, fun x hx' y hy => hx x (h1.perm.mem_iff.1 hx') y (h2.perm.mem_iff.1 hy)⟩⟩
  have := h1.perm.append h2.perm
  refine this.trans ?_
  rw [show A ++ C ++ (B ++ D) = A ++ (C ++ B) ++ D by simp, show A ++ B ++ (C ++ D) = A ++ (B ++ C) ++ D by simp]
  exact ((List.perm_append_comm (l₁ := C) (l₂ := B)).append_left A).append_right D
theorem left_sub {X Y X' Y' : List Ey} (h : Left X Y) (hx : ∀ x ∈ X', x ∈ X) (hy : ∀ y ∈ Y', y ∈ Y) : Left X' Y' := fun x h1 y h2 => h x (hx x h1) y (hy y h2)
theorem merged_one_left {x : Ey} {Y1 Y2 : List Ey} (h : (Y1 ++ Y2).Pairwise ltE) (h1 : ∀ y ∈ Y1, ltE y x) (h2 : ∀ y ∈ Y2, ltE x y) : MergedE [x] (Y1 ++ Y2) (Y1 ++ x :: Y2) := by
  refine ⟨?_, ?_⟩
  · exact List.perm_middle
  · rw [List.pairwise_append] at h ⊢
    refine ⟨h.1, List.pairwise_cons.2 ⟨h2, h.2.1⟩, fun y hy z hz => ?_⟩
    rcases List.mem_cons.1 hz with rfl | hz
    · exact h1 y hy
    · exact h.2.2 y hy z hz
theorem merged_one_right {x : Ey} {Y1 Y2 : List Ey} (h : (Y1 ++ Y2).Pairwise ltE) (h1 : ∀ y ∈ Y1, ltE y x) (h2 : ∀ y ∈ Y2, ltE x y) : MergedE (Y1 ++ Y2) [x] (Y1 ++ x :: Y2) := by
  have := merged_one_left h h1 h2
  exact ⟨this.perm.trans List.perm_append_comm, this.up⟩
theorem cross {A B C D : List Ey} (hX : (A ++ B).Pairwise ltE) (hY : (C ++ D).Pairwise ltE) (h1 : ∀ x ∈ A, ∀ y ∈ D, ltE x y) (h2 : ∀ x ∈ C, ∀ y ∈ B, ltE x y) : ∀ x ∈ A ++ C, ∀ y ∈ B ++ D, ltE x y := by
  rw [List.pairwise_append] at hX hY
  intro x hx y hy
  rcases List.mem_append.1 hx with hx | hx
  · rcases List.mem_append.1 hy with hy | hy
    · exact hX.2.2 x hx y hy
    · exact h1 x hx y hy
  · rcases List.mem_append.1 hy with hy | hy
    · exact h2 x hx y hy
    · exact hY.2.2 x hx y hy
theorem border {A D : List Ey} {a d : Ey} (hA : (A ++ [a]).Pairwise ltE) (hD : (d :: D).Pairwise ltE) (h : ltE a d) : ∀ x ∈ A ++ [a], ∀ y ∈ d :: D, ltE x y := by
  rw [List.pairwise_append] at hA
  rw [List.pairwise_cons] at hD
  have h1 : ∀ x ∈ A ++ [a], ltE x d := fun x hx => by
    rcases List.mem_append.1 hx with hx | hx
    · exact ltE_trans (hA.2.2 x hx a (by simp)) h
    · rw [List.mem_singleton] at hx; subst hx; exact h
  intro x hx y hy
  rcases List.mem_cons.1 hy with rfl | hy
  · exact h1 x hx
  · exact ltE_trans (h1 x hx) (hD.1 y hy)
theorem left_one {X Y : List Ey} {x y : Ey} (h : Left X Y) (hx : x ∈ X) (hy : y ∈ Y) : (¬ y.2.hour < x.2.hour → ltE x y) ∧ (y.2.hour < x.2.hour → ltE y x) := ⟨(left_lt h hx hy).2.1, (left_lt h hx hy).1.1⟩
theorem drop_get {α : Type} {l : List α} {k : Nat} {c : α} (h : l[k]? = some c) : l.drop k = c :: l.drop (k + 1) := by
  obtain ⟨h1, h2⟩ := List.getElem?_eq_some_iff.1 h
  rw [List.drop_eq_getElem_cons h1, h2]
theorem take_get {α : Type} {l : List α} {k : Nat} {c : α} (h : l[k]? = some c) : l.take (k + 1) = l.take k ++ [c] := by rw [List.take_add_one, h]; rfl
theorem take_lt {X : List Ey} (hX : X.Pairwise ltE) {k : Nat} {c z : Ey} (hc : X[k]? = some c) (h : ltE c z) : ∀ x ∈ X.take (k + 1), ltE x z := by
  rw [take_get hc]
  have hp := hX.take (i := k + 1)
  rw [take_get hc, List.pairwise_append] at hp
  intro x hx
  rcases List.mem_append.1 hx with hx | hx
  · exact ltE_trans (hp.2.2 x hx c (by simp)) h
  · rw [List.mem_singleton] at hx; subst hx; exact h
theorem drop_lt {X : List Ey} (hX : X.Pairwise ltE) {k : Nat} {c z : Ey} (hc : X[k]? = some c) (h : ltE z c) : ∀ x ∈ X.drop k, ltE z x := by
  have hp := hX.drop (i := k)
  rw [drop_get hc] at hp ⊢
  rw [List.pairwise_cons] at hp
  intro x hx
  rcases List.mem_cons.1 hx with rfl | hx
  · exact h
  · exact ltE_trans h (hp.1 x hx)
theorem merged_left_at {x : Ey} {Y : List Ey} (hY : Y.Pairwise ltE) (hL : Left [x] Y) {k : Nat} (hk : k ≤ Y.length) (h1 : ∀ y, 0 < k → Y[k - 1]? = some y → y.2.hour < x.2.hour) (h2 : ∀ y, Y[k]? = some y → ¬ y.2.hour < x.2.hour) : MergedE [x] Y (Y.take k ++ x :: Y.drop k) := by
  have := merged_one_left (x := x) (Y1 := Y.take k) (Y2 := Y.drop k) (by rw [List.take_append_drop]; exact hY) ?_ ?_
  · rwa [List.take_append_drop] at this
  · cases k with
    | zero => simp
    | succ k =>
      obtain ⟨c, hc⟩ : ∃ c, Y[k]? = some c := get_some (by omega)
      have := (left_one hL (by simp : x ∈ [x]) (List.mem_of_getElem? hc)).2 (h1 c (by omega) hc)
      exact take_lt hY hc this
  · by_cases hkl : k < Y.length
    · obtain ⟨c, hc⟩ : ∃ c, Y[k]? = some c := get_some hkl
      have := (left_one hL (by simp : x ∈ [x]) (List.mem_of_getElem? hc)).1 (h2 c hc)
      exact drop_lt hY hc this
    · rw [List.drop_of_length_le (by omega)]; simp
theorem merged_right_at {y : Ey} {X : List Ey} (hX : X.Pairwise ltE) (hL : Left X [y]) {k : Nat} (hk : k ≤ X.length) (h1 : ∀ x, 0 < k → X[k - 1]? = some x → ¬ y.2.hour < x.2.hour) (h2 : ∀ x, X[k]? = some x → y.2.hour < x.2.hour) : MergedE X [y] (X.take k ++ y :: X.drop k) := by
  have := merged_one_right (x := y) (Y1 := X.take k) (Y2 := X.drop k) (by rw [List.take_append_drop]; exact hX) ?_ ?_
  · rwa [List.take_append_drop] at this
  · cases k with
    | zero => simp
    | succ k =>
      obtain ⟨c, hc⟩ : ∃ c, X[k]? = some c := get_some (by omega)
      have := (left_one hL (List.mem_of_getElem? hc) (by simp : y ∈ [y])).1 (h1 c (by omega) hc)
      exact take_lt hX hc this
  · by_cases hkl : k < X.length
    · obtain ⟨c, hc⟩ : ∃ c, X[k]? = some c := get_some hkl
      have := (left_one hL (List.mem_of_getElem? hc) (by simp : y ∈ [y])).2 (h2 c hc)
      exact drop_lt hX hc this
    · rw [List.drop_of_length_le (by omega)]; simp
theorem sym_parts {X Y : List Ey} (hX : X.Pairwise ltE) (hY : Y.Pairwise ltE) (hL : Left X Y) {s e : Nat} (hs : s ≤ X.length) (he : e ≤ Y.length)
    (h1 : ∀ x y, 0 < s → X[s - 1]? = some x → Y[e]? = some y → ¬ y.2.hour < x.2.hour) (h2 : ∀ x y, 0 < e → X[s]? = some x → Y[e - 1]? = some y → y.2.hour < x.2.hour) :
    ∀ x ∈ X.take s ++ Y.take e, ∀ y ∈ X.drop s ++ Y.drop e, ltE x y := by
  refine cross (by rw [List.take_append_drop]; exact hX) (by rw [List.take_append_drop]; exact hY) ?_ ?_
  · intro x hx y hy
    cases s with
    | zero => simp at hx
    | succ s =>
      by_cases hel : e < Y.length
      · obtain ⟨c, hc⟩ : ∃ c, X[s]? = some c := get_some (by omega)
        obtain ⟨d, hd⟩ : ∃ d, Y[e]? = some d := get_some hel
        have hlt := (left_one hL (List.mem_of_getElem? hc) (List.mem_of_getElem? hd)).1 (h1 c d (by omega) hc hd)
        have h3 := take_lt hX hc hlt x hx
        exact drop_lt hY hd h3 y hy
      · rw [List.drop_of_length_le (by omega)] at hy; simp at hy
  · intro x hx y hy
    cases e with
    | zero => simp at hx
    | succ e =>
      by_cases hsl : s < X.length
      · obtain ⟨c, hc⟩ : ∃ c, X[s]? = some c := get_some hsl
        obtain ⟨d, hd⟩ : ∃ d, Y[e]? = some d := get_some (by omega)
        have hlt := (left_one hL (List.mem_of_getElem? hc) (List.mem_of_getElem? hd)).2 (h2 c d (by omega) hc hd)
        have h3 := take_lt hY hd hlt x hx
        exact drop_lt hX hc h3 y hy
      · rw [List.drop_of_length_le (by omega)] at hy; simp at hy
theorem ins_up {S1 S2 : List Ey} {x : Ey} (h : (S1 ++ S2).Pairwise ltE) (h1 : ∀ y ∈ S1, ltE y x) (h2 : ∀ y ∈ S2, ltE x y) : (S1 ++ x :: S2).Pairwise ltE := (merged_one_left h h1 h2).up
end Go.Proofs.YtkhoengjdfmfaaaGreat
