/- The keys of a map from ints to bools, collected and sorted: maps.Keys, slices.AppendSeq, Collect, Sorted. -/
import Derived.Test.YtobcnochlkdpaaaSyb
import Derived.Test.YtobcnochlkdpaaaSn
import Derived.Test.YtobcnochlkdpaaaSz
namespace Go.Proofs.Ytobcnochlkdpaaa
set_option linter.unusedSimpArgs false
set_option linter.unusedVariables false
open Go.MapKept
theorem Hit.keep {es : Array MapEntry} {seen : Array Nat} {b : Nat} {q : Int} (h : Hit es seen q) : Hit es (seen.push b) q := by
  obtain ⟨e, he, hk, hs⟩ := h
  exact ⟨e, he, hk, by rw [contains_push, hs]; rfl⟩
theorem Hit.self {es : Array MapEntry} {seen : Array Nat} {e : MapEntry} {k : Int} (he : e ∈ es.toList) (hk : e.key = .int .i64 k) : Hit es (seen.push e.born) k :=
  ⟨e, he, hk, by rw [contains_push]; simp⟩
theorem int_len : ∀ {m l : List Int}, l.Nodup → (∀ x ∈ l, x ∈ m) → l.length ≤ m.length
  | m, [], _, _ => Nat.zero_le _
  | m, x :: l, hn, h => by
    rw [List.nodup_cons] at hn
    have hx := h x (by simp)
    have := int_len (m := m.erase x) (l := l) hn.2 fun y hy => by
      have hne : y ≠ x := fun e => hn.1 (e ▸ hy)
      exact (List.mem_erase_of_ne hne).2 (h y (by simp [hy]))
    rw [List.length_erase_of_mem hx] at this
    have := List.length_pos_of_mem hx
    simp only [List.length_cons]; omega
theorem scall_permu {P : Program} {f : FuncId} {args : List AV} {σ σ' : List Ent} {Q : AV → List Ent → Prop} (hp : σ.Perm σ') (h : SCall P f args σ' Q) : SCall P f args σ Q :=
  ⟨fun X M w vs hg ha => h.run X M w vs (hg.perm hp) ha⟩
set_option maxHeartbeats 4000000 in
set_option maxRecDepth 10000 in
theorem keys1_c (S : Int → Bool) (n b bm l : Nat) (σ : List Ent) (I : List Int → List Ent → Prop) (Stop : List Ent → Prop)
    (hy : ∀ L k τ, S k = true → k ∉ L → I L τ → SRound Try.prog l [.int .i64 k] τ fun r σ' => (r = .bool true ∧ I (L ++ [k]) σ') ∨ (r = .bool false ∧ Stop σ')) (h0 : I [] σ) :
    SCall Try.prog 53 [.fn (.yield l) [] [], .ptr bm 0] (.cells bm [.mp b] 78 :: .imap b (boolM S) n :: σ) (fun _ σ' => (∃ L, (∀ q, q ∈ L ↔ S q = true) ∧ L.Nodup ∧ I L σ') ∨ Stop σ') := by
  refine scall_of Try.func53 rfl (by simp) ?_
  refine ex_seq ?_;
  refine ex_region ?_;
  apply exl_is; rfl; rfl; rfl; (apply g_load1; rfl; rfl; (exact .p (by ((repeat (first | exact List.Mem.head _ | assumption | refine List.Mem.tail _ ?_)); done)) rfl));
  show EXL _ _ _ ({ dst := _, op := .range _ _, type := _, pos := _, after := _, guard := _ } :: _) _ _; refine exl_call rfl rfl rfl (g_rangeSet rfl rfl (by intro e; exact Upd.there Upd.here)) ?_; rintro _ _ ⟨r, es, clock, hE⟩;
  refine exl_nilT ?_;
  refine ex_block ?_;
  rotate_left
  (all_goals (repeat (rename BV _ _ => hbv; cases hbv)))
  all_goals (try (exfalso; first | (rename true = false => hx; cases hx; done) | (rename false = true => hx; cases hx; done)))
  refine ex_loop (fun (z : Array Nat × List Int × List Ent) => (⟨[(0, .fn (.yield l) [] []), (5, .ptr r 0)], .obj r (.mapIter (some b) clock z.1 clock) :: .cells bm [.mp b] 78 :: .obj b (.map es clock) :: z.2.2, [], Try.f53.ntmps⟩ : St)) (fun z => I z.2.1 z.2.2 ∧ (∀ q, q ∈ z.2.1 ↔ Hit es z.1 q) ∧ z.2.1.Nodup ∧ (∀ q ∈ z.2.1, S q = true)) (fun z => (leftOf es z.1).size) (#[], [], σ) (⟨h0, fun q => ⟨fun h => (by cases h), fun h => (Hit.none es q h).elim⟩, .nil, fun q h => (by cases h)⟩) (St.le_of (by repeat (first | exact trivial | refine ⟨rfl, ?_⟩)) (by repeat (first | exact List.Sublist.refl _ | apply List.Sublist.cons_cons | apply List.Sublist.cons))) ?_
  intro z hI
  obtain ⟨seen, L, τ⟩ := z
  obtain ⟨hI1, hI2, hI3, hI4⟩ := hI
  dsimp only at hI1 hI2 hI3 hI4 ⊢
  clear h0
  refine ex_seq ?_;
  refine ex_region ?_;
  show EXL _ _ _ ({ dst := _, op := .next _ _, type := _, pos := _, after := _, guard := _ } :: _) _ _; refine exl_call rfl rfl rfl (g_nextSet hE rfl (by ((repeat (first | exact List.Mem.head _ | assumption | refine List.Mem.tail _ ?_)); done)) (by intro s; exact Upd.here)) ?_; rintro _ _ (hd | ⟨e, k, he, hk, hv, h0, hn, hpp, hm⟩);
  apply exl_is; rfl; rfl; rfl; (apply g_extract; rfl; rfl);
  refine exl_nilT ?_;
  refine ex_seq ?_;
  refine ex_cond_f rfl (by rfl) ?_;
  refine ex_exit ?_;
  simp only [thenA, blockA, roundA, noGotoA, retA, ↓reduceIte, Nat.reduceEqDiff];
  rotate_left;
  apply exl_is; rfl; rfl; rfl; (apply g_extract; rfl; rfl);
  refine exl_nilT ?_;
  refine ex_seq ?_;
  refine ex_cond_t rfl (by rfl) ?_;
  refine ex_skip ?_;
  refine ex_block ?_;
  refine ex_seq ?_;
  refine ex_region ?_;
  show EXL _ _ _ ({ dst := _, op := .entry _, type := _, pos := _, after := _, guard := _ } :: _) _ _; apply exl_is; rfl; rfl; rfl; exact g_entrySet hE he hk hv rfl (by ((repeat (first | exact List.Mem.head _ | assumption | refine List.Mem.tail _ ?_)); done)) (by ((repeat (first | exact List.Mem.head _ | assumption | refine List.Mem.tail _ ?_)); done));
  apply exl_is; rfl; rfl; rfl; (apply g_extract; rfl; rfl);
  apply exl_is; rfl; rfl; rfl; (apply g_assign; rfl);
  refine exl_nilT ?_;
  refine ex_seq ?_;
  refine ex_region ?_;
  apply exl_is; rfl; rfl; rfl; (apply g_move; rfl);
  apply exl_is; rfl; rfl; rfl; (apply g_move; rfl);
  rotate_left
  (all_goals (repeat (rename BV _ _ => hbv; cases hbv)))
  all_goals (try (exfalso; first | (rename true = false => hx; cases hx; done) | (rename false = true => hx; cases hx; done)))
  · refine ret_q (σ3 := τ) .nil ((by repeat (first | exact Res.nil | (apply Res.cons; (first | (apply Res1.ofTmp; rfl) | (apply Res1.ofCell; rfl; rfl; (first | exact .e rfl | exact .p (by ((repeat (first | exact List.Mem.head _ | assumption | refine List.Mem.tail _ ?_)); done)) rfl | exact .r (by ((repeat (first | exact List.Mem.head _ | assumption | refine List.Mem.tail _ ?_)); done)) rfl)) | (apply Res1.ofAgg; rfl; rfl; decide; (first | exact .e rfl rfl | exact .p (by ((repeat (first | exact List.Mem.head _ | assumption | refine List.Mem.tail _ ?_)); done)) rfl rfl | exact .r (by ((repeat (first | exact List.Mem.head _ | assumption | refine List.Mem.tail _ ?_)); done)) rfl rfl))))))) (by repeat (first | exact List.Sublist.refl _ | apply List.Sublist.cons_cons | apply List.Sublist.cons)) ?_
    exact fin_done (.inl ⟨L, fun q => ⟨hI4 q, fun h => (hI2 q).2 (hd q h)⟩, hI3, hI1⟩)
  · have hnot : k ∉ L := fun h => hn ((hI2 k).1 h)
    have hr := SRound.front [.obj r (.mapIter (some b) clock (seen.push e.born) clock), .cells bm [.mp b] 78, .obj b (.map es clock)] (hy L k τ h0 hnot hI1)
    simp only [List.cons_append, List.nil_append] at hr
    have hL2 : ∀ q, q ∈ L ++ [k] ↔ Hit es (seen.push e.born) q := fun q => by
      rw [List.mem_append, List.mem_singleton]
      constructor
      · rintro (h | rfl)
        · exact ((hI2 q).1 h).keep
        · exact Hit.self he hk
      · intro h
        rcases hpp q h with h | h
        · exact .inl ((hI2 q).2 h)
        · exact .inr h
    have hL3 : (L ++ [k]).Nodup := by
      rw [List.nodup_append]
      exact ⟨hI3, by simp, fun a ha c hc => by rw [List.mem_singleton] at hc; subst hc; exact fun e => hnot (e ▸ ha)⟩
    have hL4 : ∀ q ∈ L ++ [k], S q = true := fun q hq => by
      rcases List.mem_append.1 hq with hq | hq
      · exact hI4 q hq
      · rw [List.mem_singleton] at hq; subst hq; exact h0
    clear hy hI1 hI2 hI3 hI4 hnot
    refine exl_call rfl rfl rfl (g_yield rfl rfl hr) ?_; rintro _ _ ⟨σ2, rfl, ⟨rfl, hs⟩ | ⟨rfl, hs⟩⟩;
    apply exl_isB; rfl; rfl; rfl; (apply g_not; rfl); intro _ _;
    refine exl_nilT ?_;
    refine ex_cond rfl (fun h => ?_) (fun h => ?_) <;> ((first | (subst h; rename BV _ true => h0; have h := h0.eq; clear h0) | (subst h; rename BV _ false => h0; have h := h0.eq; clear h0) | skip); (have hp := h; try simp only [decide_eq_true_eq, decide_eq_false_iff_not, Bool.not_eq_true', Bool.not_eq_false', bne_iff_ne, beq_iff_eq, beq_eq_false_iff_ne, bne_eq_false_iff_eq, Int.not_lt, Int.not_le] at hp); (try (exfalso; first | omega | (cases hp; done))));
    refine ex_skip ?_;
    simp only [thenA, blockA, roundA, noGotoA, retA, ↓reduceIte, Nat.reduceEqDiff];
    rotate_left;
    apply exl_isB; rfl; rfl; rfl; (apply g_not; rfl); intro _ _;
    refine exl_nilT ?_;
    refine ex_cond rfl (fun h => ?_) (fun h => ?_) <;> ((first | (subst h; rename BV _ true => h0; have h := h0.eq; clear h0) | (subst h; rename BV _ false => h0; have h := h0.eq; clear h0) | skip); (have hp := h; try simp only [decide_eq_true_eq, decide_eq_false_iff_not, Bool.not_eq_true', Bool.not_eq_false', bne_iff_ne, beq_iff_eq, beq_eq_false_iff_ne, bne_eq_false_iff_eq, Int.not_lt, Int.not_le] at hp); (try (exfalso; first | omega | (cases hp; done))));
    refine ex_ret ?_;
    simp only [thenA, blockA, roundA, noGotoA, retA, ↓reduceIte, Nat.reduceEqDiff];
    rotate_left
    (all_goals (repeat (rename BV _ _ => hbv; cases hbv)))
    all_goals (try (exfalso; first | (rename true = false => hx; cases hx; done) | (rename false = true => hx; cases hx; done)))
    · exact ⟨(seen.push e.born, L ++ [k], σ2), ⟨hs, hL2, hL3, hL4⟩, hm, (St.le_of (by repeat (first | exact trivial | refine ⟨rfl, ?_⟩)) (by repeat (first | exact List.Sublist.refl _ | apply List.Sublist.cons_cons | apply List.Sublist.cons)))⟩
    · refine ret_q (σ3 := σ2) .nil ((by repeat (first | exact Res.nil | (apply Res.cons; (first | (apply Res1.ofTmp; rfl) | (apply Res1.ofCell; rfl; rfl; (first | exact .e rfl | exact .p (by ((repeat (first | exact List.Mem.head _ | assumption | refine List.Mem.tail _ ?_)); done)) rfl | exact .r (by ((repeat (first | exact List.Mem.head _ | assumption | refine List.Mem.tail _ ?_)); done)) rfl)) | (apply Res1.ofAgg; rfl; rfl; decide; (first | exact .e rfl rfl | exact .p (by ((repeat (first | exact List.Mem.head _ | assumption | refine List.Mem.tail _ ?_)); done)) rfl rfl | exact .r (by ((repeat (first | exact List.Mem.head _ | assumption | refine List.Mem.tail _ ?_)); done)) rfl rfl))))))) (by repeat (first | exact List.Sublist.refl _ | apply List.Sublist.cons_cons | apply List.Sublist.cons)) ?_
      exact fin_done (.inr hs)
set_option maxRecDepth 10000 in
theorem keys_c (b n : Nat) (S : Int → Bool) (σ : List Ent) : SCall Try.prog 47 [.mp b] (.imap b (boolM S) n :: σ) (fun r τ => ∃ bm, r = .fn (.func 53) [] [.ptr bm 0] ∧ τ = .cells bm [.mp b] 78 :: .imap b (boolM S) n :: σ) := by
  refine scall_of Try.func47 rfl (by simp) ?_
  refine ex_seq ?_;
  refine ex_region ?_;
  refine exl_box rfl rfl rfl (g_box rfl rfl) ?_; intro _;
  apply exl_is; rfl; rfl; rfl; (apply g_assign; rfl);
  refine exl_nilT ?_;
  refine ex_seq ?_;
  refine ex_region ?_;
  apply exl_is; rfl; rfl; rfl; (apply g_makeFunc; rfl; rfl);
  apply exl_is; rfl; rfl; rfl; (apply g_assign; rfl);
  refine exl_nilT ?_;
  refine ex_ret ?_;
  simp only [thenA, blockA, roundA, noGotoA, retA, ↓reduceIte, Nat.reduceEqDiff];
  rotate_left
  (all_goals (repeat (rename BV _ _ => hbv; cases hbv)))
  all_goals (try (exfalso; first | (rename true = false => hx; cases hx; done) | (rename false = true => hx; cases hx; done)))
  refine ret_q (σ3 := _) .nil (.cons (.ofTmp rfl) .nil) (by repeat (first | exact List.Sublist.refl _ | apply List.Sublist.cons_cons | apply List.Sublist.cons)) ?_
  exact fin_done ⟨_, rfl, rfl⟩
set_option maxHeartbeats 4000000 in
set_option maxRecDepth 10000 in
theorem appendSeq_c (S : Int → Bool) (B : List Int) (hS : ∀ q, S q = true → q ∈ B) (hB : B.length ≤ 1000000) (n b bm : Nat) (σ : List Ent) :
    SCall Try.prog 55 [.slv nilS, .fn (.func 53) [] [.ptr bm 0]] (.cells bm [.mp b] 78 :: .imap b (boolM S) n :: σ) (fun r τ => ∃ (v : Value) (L : List Int), r = .slv v ∧ τ = .row v 3 1 (L.map fun k => [AV.int .i64 k]) :: σ ∧ (∀ q, q ∈ L ↔ S q = true) ∧ L.Nodup) := by
  refine scall_of Try.func55 rfl (by simp) ?_
  refine ex_nilRow 3 1 ?_
  refine ex_seq ?_;
  refine ex_region ?_;
  refine exl_box rfl rfl rfl (g_box rfl rfl) ?_; intro _;
  apply exl_is; rfl; rfl; rfl; (apply g_assign; rfl);
  refine exl_nilT ?_;
  refine ex_seq ?_;
  refine ex_seq ?_;
  refine ex_region ?_;
  apply exl_is; rfl; rfl; rfl; (apply g_move; rfl);
  refine exl_nilT ?_;
  refine ex_block ?_;
  rotate_left
  (all_goals (repeat (rename BV _ _ => hbv; cases hbv)))
  all_goals (try (exfalso; first | (rename true = false => hx; cases hx; done) | (rename false = true => hx; cases hx; done)))
  rename_i bs
  refine ex_range rfl (enters_b (by kernel_rfl)) ?_
  intro D l0 fn
  show SCall _ _ _ (Ent.loop _ _ _ _ ?ee ?nn ?ps ?asg ?body _ :: _) _
  obtain ⟨Lp, hL⟩ : ∃ L, L = Ent.loop l0 .ready none fn ?ee ?nn ?ps ?asg ?body D := ⟨_, rfl⟩
  rw [← hL]
  refine scall_permu (List.perm_append_comm_assoc [Lp, .obj D (.deferred (some [])), .cells bs [.slv nilS] 67, .row nilS 3 1 []] [.cells bm [.mp b] 78, .imap b (boolM S) n] σ) ?_
  refine SCall.mono (keys1_c S n b bm l0 _ (fun L τ => (∀ q ∈ L, S q = true) ∧ L.Nodup ∧ ∃ v, τ = Lp :: .obj D (.deferred (some [])) :: .cells bs [.slv v] 67 :: .row v 3 1 (L.map fun k => [AV.int .i64 k]) :: σ) (fun _ => False) ?_ ⟨fun q hq => (by cases hq), .nil, nilS, rfl⟩) ?_
  · rintro L k τ hk hnk ⟨hI1, hI2, v, rfl⟩
    have hlen := int_len hI2 (m := B) fun q hq => hS q (hI1 q hq)
    have hL3 : (L ++ [k]).Nodup := by
      rw [List.nodup_append]
      exact ⟨hI2, by simp, fun a ha c hc => by rw [List.mem_singleton] at hc; subst hc; exact fun e => hnk (e ▸ ha)⟩
    have hL4 : ∀ q ∈ L ++ [k], S q = true := fun q hq => by
      rcases List.mem_append.1 hq with hq | hq
      · exact hI1 q hq
      · rw [List.mem_singleton] at hq; subst hq; exact hk
    rw [show (L ++ [k]).map (fun k => [AV.int .i64 k]) = L.map (fun k => [AV.int .i64 k]) ++ [[AV.int .i64 k]] by simp]
    clear hI1 hI2 hS hnk hk
    rw [hL]
    refine SRound.sub ?_
    refine sround (by ((repeat (first | exact List.Mem.head _ | assumption | refine List.Mem.tail _ ?_)); done)) rfl (by decide) ?_
    refine ex_region ?_;
    apply exl_is; rfl; rfl; rfl; (apply g_assign; rfl);
    refine exl_nil ?_;
    simp only [thenA]; refine ⟨_, (by (exact Upd.here)), ?_⟩; show EX _ _ _ _ _;
    refine ex_block ?_;
    refine ex_region ?_;
    apply exl_is; rfl; rfl; rfl; (apply g_load1; rfl; rfl; (exact .p (by ((repeat (first | exact List.Mem.head _ | assumption | refine List.Mem.tail _ ?_)); done)) rfl));
    apply exl_is; rfl; rfl; rfl; (apply g_move; rfl);
    refine exl_row rfl rfl rfl (by exact g_buildSlice rfl rfl (by decide) rfl rfl (by (simp only [chunkN, List.take_succ_cons, List.take_zero, List.drop_succ_cons, List.drop_zero]; rfl))) ?_; intro _;
    apply exl_grew; rfl; rfl; rfl; (apply g_append; rfl; rfl; rfl; (intro v'; (exact Upd.there (Upd.there (Upd.there (Upd.there (Upd.here)))))); (exact .r (by ((repeat (first | exact List.Mem.head _ | assumption | refine List.Mem.tail _ ?_)); done))); (intro y hy; simp only [List.mem_map, List.mem_cons, List.not_mem_nil, or_false, List.mem_append] at hy; (focus (obtain ⟨_, _, rfl⟩ := hy; rfl; done))); (refine app_ok ?_ (by kernel_rfl); (try simp only [List.length_append, List.length_map, List.length_cons, List.length_nil, List.length_take, List.length_drop]); omega)); intro _;
    apply exl_do; rfl; rfl; (apply g_store'; rfl; rfl; rfl; (exact Upd.there (Upd.there (Upd.there (Upd.here)))); (simp only [setL, List.set_cons_zero, List.set_cons_succ, AV.cells]; rfl); rfl; rfl; rfl; exact Nat.le_of_ble_eq_true rfl);
    refine exl_nil ?_;
    simp only [thenA, blockA, roundA, noGotoA, retA, ↓reduceIte, Nat.reduceEqDiff];
    show rndA _ _ _ _ _ _ _ _ _ _ _; refine ⟨_, _, rfl, (by (exact Upd.there (Upd.here))), ?_⟩;
    simp only [thenA, blockA, roundA, noGotoA, retA, ↓reduceIte, Nat.reduceEqDiff];
    rotate_left
    (all_goals (repeat (rename BV _ _ => hbv; cases hbv)))
    all_goals (try (exfalso; first | (rename true = false => hx; cases hx; done) | (rename false = true => hx; cases hx; done)))
    subst hL
    exact ⟨_, List.Sublist.cons _ (List.Sublist.refl _), .inl ⟨rfl, hL4, hL3, _, rfl⟩⟩
  · rintro r τ (⟨L, h1, h2, h3, h4, v, rfl⟩ | hF)
    · rw [hL]
      refine RangeEnd.done .here ?_
      refine ex_seq ?_;
      refine ex_region ?_;
      apply exl_is; rfl; rfl; rfl; (apply g_load1; rfl; rfl; (exact .p (by ((repeat (first | exact List.Mem.head _ | assumption | refine List.Mem.tail _ ?_)); done)) rfl));
      apply exl_is; rfl; rfl; rfl; (apply g_assign; rfl);
      refine exl_nilT ?_;
      refine ex_ret ?_;
      simp only [thenA, blockA, roundA, noGotoA, retA, ↓reduceIte, Nat.reduceEqDiff];
      rotate_left
      (all_goals (repeat (rename BV _ _ => hbv; cases hbv)))
      all_goals (try (exfalso; first | (rename true = false => hx; cases hx; done) | (rename false = true => hx; cases hx; done)))
      refine ret_q (σ3 := .row v 3 1 (L.map fun k => [AV.int .i64 k]) :: σ) (.cons (Rem.here) .nil) (.cons (.ofTmp rfl) .nil) (by repeat (first | exact List.Sublist.refl _ | apply List.Sublist.cons_cons | apply List.Sublist.cons)) ?_
      exact fin_done ⟨v, L, rfl, rfl, h1, h2⟩
    · exact hF.elim
set_option maxRecDepth 10000 in
theorem collect_c (S : Int → Bool) (B : List Int) (hS : ∀ q, S q = true → q ∈ B) (hB : B.length ≤ 1000000) (n b bm : Nat) (σ : List Ent) :
    SCall Try.prog 51 [.fn (.func 53) [] [.ptr bm 0]] (.cells bm [.mp b] 78 :: .imap b (boolM S) n :: σ) (fun r τ => ∃ (v : Value) (L : List Int), r = .slv v ∧ τ = .row v 3 1 (L.map fun k => [AV.int .i64 k]) :: σ ∧ (∀ q, q ∈ L ↔ S q = true) ∧ L.Nodup) := by
  refine scall_of Try.func51 rfl (by simp) ?_
  have hc := appendSeq_c S B hS hB n b bm σ
  clear hS hB
  refine ex_seq ?_;
  refine ex_region ?_;
  apply exl_is; rfl; rfl; rfl; (apply g_assign; rfl);
  refine exl_nilT ?_;
  refine ex_seq ?_;
  refine ex_region ?_;
  apply exl_is; rfl; rfl; rfl; (apply g_move; rfl);
  refine exl_call rfl rfl rfl (g_call rfl rfl (enters_b (by kernel_rfl)) hc) ?_; rintro _ _ ⟨v, L, rfl, rfl, h1, h2⟩;
  apply exl_is; rfl; rfl; rfl; (apply g_assign; rfl);
  refine exl_nilT ?_;
  refine ex_ret ?_;
  simp only [thenA, blockA, roundA, noGotoA, retA, ↓reduceIte, Nat.reduceEqDiff];
  rotate_left
  (all_goals (repeat (rename BV _ _ => hbv; cases hbv)))
  all_goals (try (exfalso; first | (rename true = false => hx; cases hx; done) | (rename false = true => hx; cases hx; done)))
  refine ret_q (σ3 := .row v 3 1 (L.map fun k => [AV.int .i64 k]) :: σ) .nil (.cons (.ofTmp rfl) .nil) (by repeat (first | exact List.Sublist.refl _ | apply List.Sublist.cons_cons | apply List.Sublist.cons)) ?_
  exact fin_done ⟨v, L, rfl, rfl, h1, h2⟩
theorem sortI_lt {L : List Int} (h : L.Nodup) : (sortI L).Pairwise (· < ·) := by
  have hp : (sortI L).Perm L := List.mergeSort_perm _ _
  have hle : (sortI L).Pairwise (· ≤ ·) := by
    have := List.pairwise_mergeSort (le := fun x y : Int => decide (x ≤ y)) (fun a b c h1 h2 => by simp only [decide_eq_true_eq] at *; omega) (fun a b => by simp only [Bool.or_eq_true, decide_eq_true_eq]; omega) L
    exact this.imp (fun h => by simpa using h)
  have hnd : (sortI L).Nodup := hp.nodup_iff.2 h
  exact (hle.and hnd).imp fun ⟨h1, h2⟩ => by omega
set_option maxRecDepth 10000 in
/-- The keys of a set, sorted. -/
theorem sorted_c (S : Int → Bool) (B : List Int) (hS : ∀ q, S q = true → q ∈ B) (hB : B.length ≤ 1000000) (n b bm : Nat) (σ : List Ent) :
    SCall Try.prog 46 [.fn (.func 53) [] [.ptr bm 0]] (.cells bm [.mp b] 78 :: .imap b (boolM S) n :: σ) (fun r τ => ∃ K : List Int, r = .dl 1 (K.map fun k => [AV.int .i64 k]) ∧ τ = σ ∧ K.Pairwise (· < ·) ∧ (∀ q, q ∈ K ↔ S q = true) ∧ K.length ≤ B.length) := by
  refine scall_of Try.func46 rfl (by simp) ?_
  have hc := collect_c S B hS hB n b bm σ
  have hlen : ∀ L : List Int, (∀ q, q ∈ L ↔ S q = true) → L.Nodup → L.length ≤ B.length := fun L h1 h2 => int_len h2 fun q hq => hS q ((h1 q).1 hq)
  clear hS
  refine ex_seq ?_;
  refine ex_region ?_;
  apply exl_is; rfl; rfl; rfl; (apply g_assign; rfl);
  refine exl_nilT ?_;
  refine ex_seq ?_;
  refine ex_region ?_;
  apply exl_is; rfl; rfl; rfl; (apply g_move; rfl);
  refine exl_call rfl rfl rfl (g_call rfl rfl (enters_b (by kernel_rfl)) hc) ?_; rintro _ _ ⟨v, L, rfl, rfl, h1, h2⟩; have hl := hlen L h1 h2;
  apply exl_is; rfl; rfl; rfl; (apply g_assign; rfl);
  refine exl_nilT ?_;
  refine ex_seq ?_;
  refine ex_region ?_;
  apply exl_is; rfl; rfl; rfl; (apply g_move; rfl);
  refine exl_call rfl rfl rfl (g_call rfl rfl (enters_b (by kernel_rfl)) (sort_c Upd.here (by omega))) ?_; rintro _ _ ⟨rfl, rfl⟩;
  refine exl_nilT ?_;
  refine ex_seq ?_;
  refine ex_region ?_;
  apply exl_is; rfl; rfl; rfl; (apply g_move; rfl);
  apply exl_is; rfl; rfl; rfl; (apply g_assign; rfl);
  refine exl_nilT ?_;
  refine ex_ret ?_;
  simp only [thenA, blockA, roundA, noGotoA, retA, ↓reduceIte, Nat.reduceEqDiff];
  rotate_left
  (all_goals (repeat (rename BV _ _ => hbv; cases hbv)))
  all_goals (try (exfalso; first | (rename true = false => hx; cases hx; done) | (rename false = true => hx; cases hx; done)))
  have hp : (sortI L).Perm L := List.mergeSort_perm _ _
  refine ret_q (σ3 := .row v 3 1 ((sortI L).map fun k => [AV.int .i64 k]) :: σ) .nil (.cons (.ofTmp rfl) .nil) (by repeat (first | exact List.Sublist.refl _ | apply List.Sublist.cons_cons | apply List.Sublist.cons)) ?_
  exact fin_seal .here (.here .nil) (fin_done ⟨sortI L, rfl, rfl, sortI_lt h2, fun q => hp.mem_iff.trans (h1 q), by rw [hp.length_eq]; exact hl⟩)
end Go.Proofs.Ytobcnochlkdpaaa
