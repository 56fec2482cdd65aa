/- Parts of the proof that belong together: Ob. -/
import Derived.Test.YtkhoengjdfmfaaaGreatGE14
set_option maxRecDepth 10000
set_option linter.unusedSimpArgs false
set_option linter.unusedVariables false
namespace Go.Proofs.YtkhoengjdfmfaaaGreat
theorem up_ge {S : List Ey} (h : S.Pairwise fun a b => a.1 < b.1) : ∀ (k : Nat) (e : Ey), S[k]? = some e → k ≤ e.1
  | 0, _, _ => Nat.zero_le _
  | k + 1, e, he => by
    obtain ⟨x, hx⟩ : ∃ x, S[k]? = some x := get_some (by have := get_lt he; omega)
    have h1 := up_ge h k x hx
    have h2 := List.pairwise_iff_getElem.1 h k (k + 1) (get_lt hx) (get_lt he) (by omega)
    rw [(List.getElem?_eq_some_iff.1 hx).2, (List.getElem?_eq_some_iff.1 he).2] at h2
    omega
theorem boolM_sn (L : List Int) (n : Int) : boolM (insN n L).contains = boolM (L ++ [n]).contains := by
  congr 1
  funext q
  rw [Bool.eq_iff_iff]
  simp only [List.contains_iff_mem, insN_mem, List.mem_append, List.mem_singleton]
  exact or_comm
def farmA (m : List Sl) (L : List Int) : Int → Option AV := fun q => if q ∈ L then some (.int .i64 (turnS m q).farm) else none
theorem farmA_upd (m : List Sl) (L : List Int) (n : Int) : updA (farmA m L) n (.int .i64 (turnS m n).farm) = farmA m (L ++ [n]) := by
  funext q
  unfold updA farmA
  by_cases h : q = n
  · subst h
    rw [if_pos rfl, if_pos (by simp)]
  · rw [if_neg h]
    by_cases h2 : q ∈ L
    · rw [if_pos h2, if_pos (by simp [h2])]
    · rw [if_neg h2, if_neg (by simp [h2, h])]
set_option maxHeartbeats 64000000 in
theorem once_c (l : List Sl) (w : Nat) (hw : w < 256) : SCall Tryz.prog 7 [.agg [sls l], .int .u8 w] [] (Is (.bool true) []) := by
  refine scall_of Tryz.func7 rfl (by simp) ?_
  have fa := few_c l
  have t1 := fun σ => scall_or' (turns_c l σ)
  cases hfw : fewB l with
  | false =>
    rw [hfw] at fa
    clear t1
    refine zX (zZ ?_); refine xBb ?_; intro _; refine xAs ?_; refine zY ?_; refine zX ?_; refine zX (zZ ?_); apply exl_isB; rfl; rfl; rfl; (refine zK rfl rfl (zV (by kernel_rfl)) ?_; exact sane_c _); intro _ _; refine xNo ?_; intro _ _; refine zY ?_; refine q_c (fun h h_k => ?_) (fun h h_k => ?_) <;> ((try subst h_k); (have hp := h; try simp only [q_n] at hp); (try (exfalso; first | omega | (cases hp; done))));
    refine zX (zZ ?_); refine xAs ?_; refine zY ?_; refine zJ ?_; simp only [zP, zU, zT, zW, retA, ↓reduceIte, Nat.reduceEqDiff]; rotate_left; refine zR ?_; refine zX ?_; refine zX (zZ ?_); refine xLa ?_; apply exl_isB; rfl; rfl; rfl; (refine zK rfl rfl (zV (by kernel_rfl)) ?_; exact fa _); intro _ _; refine xNo ?_; intro _ _; refine zY ?_; refine q_c (fun h h_k => ?_) (fun h h_k => ?_) <;> ((try subst h_k); (have hp := h; try simp only [q_n] at hp); (try (exfalso; first | omega | (cases hp; done))));
    refine zX (zZ ?_); refine xAs ?_; refine zY ?_; refine zJ ?_; simp only [zP, zU, zT, zW, retA, ↓reduceIte, Nat.reduceEqDiff]; rotate_left; refine zR ?_; refine zX (zZ ?_); refine xLa ?_; rotate_left
    (all_goals (repeat (rename BV _ _ => hbv; first | cases hbv | clear hbv)))
    all_goals (try (first | cases ‹true = false› | cases ‹false = true›))
    refine q_ri ?_
    rfl
  | true =>
  rw [hfw] at fa
  by_cases h0 : checkS l = 0
  case neg =>
    rw [show turnsS l = ([], checkS l) by unfold turnsS; rw [if_pos h0]] at t1
    dsimp only [List.map_nil] at t1
    generalize checkS l = e at t1 h0
    clear hfw
    refine zX (zZ ?_); refine xBb ?_; intro _; refine xAs ?_; refine zY ?_; refine zX ?_; refine zX (zZ ?_); apply exl_isB; rfl; rfl; rfl; (refine zK rfl rfl (zV (by kernel_rfl)) ?_; exact sane_c _); intro _ _; refine xNo ?_; intro _ _; refine zY ?_; refine q_c (fun h h_k => ?_) (fun h h_k => ?_) <;> ((try subst h_k); (have hp := h; try simp only [q_n] at hp); (try (exfalso; first | omega | (cases hp; done))));
    refine zX (zZ ?_); refine xAs ?_; refine zY ?_; refine zJ ?_; simp only [zP, zU, zT, zW, retA, ↓reduceIte, Nat.reduceEqDiff]; rotate_left; refine zR ?_; refine zX ?_; refine zX (zZ ?_); refine xLa ?_; apply exl_isB; rfl; rfl; rfl; (refine zK rfl rfl (zV (by kernel_rfl)) ?_; exact fa _); intro _ _; refine xNo ?_; intro _ _; refine zY ?_; refine q_c (fun h h_k => ?_) (fun h h_k => ?_) <;> ((try subst h_k); (have hp := h; try simp only [q_n] at hp); (try (exfalso; first | omega | (cases hp; done))));
    refine zX (zZ ?_); refine xAs ?_; refine zY ?_; refine zJ ?_; simp only [zP, zU, zT, zW, retA, ↓reduceIte, Nat.reduceEqDiff]; rotate_left; refine zR ?_; refine zX (zZ ?_); refine xLa ?_; apply zQ; rfl; rfl; rfl; (refine zK rfl rfl (zV (by kernel_rfl)) ?_; exact t1 _); refine xMv ?_; refine xEx ?_; refine xEx ?_; refine xAs ?_; refine xAs ?_; refine zY ?_; refine zX ?_; refine zX (zZ ?_); refine xMv ?_; refine xBi ?_; intro _ _; refine zY ?_; refine q_c (fun h h_k => ?_) (fun h h_k => ?_) <;> ((try subst h_k); (have hp := h; try simp only [q_n] at hp); (try (exfalso; first | omega | (cases hp; done))));
    refine zX (zZ ?_); refine xMv ?_; refine xLn ?_; refine xBi ?_; intro _ _; refine xAs ?_; refine zY ?_; refine zJ ?_; simp only [zP, zU, zT, zW, retA, ↓reduceIte, Nat.reduceEqDiff]; rotate_left
    (all_goals (repeat (rename BV _ _ => hbv; first | cases hbv | clear hbv)))
    all_goals (try (first | cases ‹true = false› | cases ‹false = true›))
    refine q_ri ?_
    rfl
  have hbk := check_book h0
  have hl5 := (check_zero.1 h0).1
  obtain ⟨N, hN⟩ : ∃ N, numsE (entL l) = N := ⟨_, rfl⟩
  rw [show turnsS l = (N.map (turnS l), 0) by unfold turnsS; rw [if_neg (by rw [h0]; simp), hN]] at t1
  dsimp only at t1
  have hup := nums_up (entL l)
  rw [hN] at hup
  have hNl : N.length ≤ 512 := by rw [← hN]; exact Nat.le_trans (nums_len _) (Nat.le_trans (entL_len l) hl5)
  have hsl : ∀ s ∈ l, Sendable s := fun s hs => sendable_book h0 hs
  obtain ⟨T, hT⟩ : ∃ T, N.map (turnS l) = T := ⟨_, rfl⟩
  rw [hT] at t1
  clear hfw
  refine zX (zZ ?_); refine xBb ?_; intro _; refine xAs ?_; refine zY ?_; refine zX ?_; refine zX (zZ ?_); apply exl_isB; rfl; rfl; rfl; (refine zK rfl rfl (zV (by kernel_rfl)) ?_; exact sane_c _); intro _ _; refine xNo ?_; intro _ _; refine zY ?_; refine q_c (fun h h_k => ?_) (fun h h_k => ?_) <;> ((try subst h_k); (have hp := h; try simp only [q_n] at hp); (try (exfalso; first | omega | (cases hp; done))));
  refine zX (zZ ?_); refine xAs ?_; refine zY ?_; refine zJ ?_; simp only [zP, zU, zT, zW, retA, ↓reduceIte, Nat.reduceEqDiff]; rotate_left; refine zR ?_; refine zX ?_; refine zX (zZ ?_); refine xLa ?_; apply exl_isB; rfl; rfl; rfl; (refine zK rfl rfl (zV (by kernel_rfl)) ?_; exact fa _); intro _ _; refine xNo ?_; intro _ _; refine zY ?_; refine q_c (fun h h_k => ?_) (fun h h_k => ?_) <;> ((try subst h_k); (have hp := h; try simp only [q_n] at hp); (try (exfalso; first | omega | (cases hp; done))));
  refine zX (zZ ?_); refine xAs ?_; refine zY ?_; refine zJ ?_; simp only [zP, zU, zT, zW, retA, ↓reduceIte, Nat.reduceEqDiff]; rotate_left; refine zR ?_; refine zX (zZ ?_); refine xLa ?_; apply zQ; rfl; rfl; rfl; (refine zK rfl rfl (zV (by kernel_rfl)) ?_; exact t1 _); refine xMv ?_; refine xEx ?_; refine xEx ?_; refine xAs ?_; refine xAs ?_; refine zY ?_; refine zX ?_; refine zX (zZ ?_); refine xMv ?_; refine xBi ?_; intro _ _; refine zY ?_; refine q_c (fun h h_k => ?_) (fun h h_k => ?_) <;> ((try subst h_k); (have hp := h; try simp only [q_n] at hp); (try (exfalso; first | omega | (cases hp; done))));
  refine zR ?_; refine zX (zZ ?_); refine exl_mapO rfl rfl rfl g_makeMapO ?_; intro _; refine xAs ?_; refine zY ?_; refine zX ?_; refine zX (zZ ?_); refine xFa ?_; refine xLd ?_; refine xLn ?_; refine xMv ?_; refine zY ?_; refine zL ?_; rotate_left
  (all_goals (repeat (rename BV _ _ => hbv; first | cases hbv | clear hbv)))
  all_goals (try (first | cases ‹true = false› | cases ‹false = true›))
  refine ex_len (t := 57) rfl ((List.length_map _).symm) (fun hlen => ?_)
  rename Nat => bv; revert bv; rename Nat => b2; revert b2
  intro b2 bv
  clear fa t1
  refine ex_loop (fun (z : Nat × Array MapEntry × Nat) => (⟨[(1, .int .u8 w), (2, .ptr b2 0), (5, .dl 4 (T.map tnC)), (7, .mp bv), (57, sls l), (58, .int .i64 l.length), (59, .int .i64 z.1)], [.obj bv (.map z.2.1 z.2.2), bkE b2 l], [], Tryz.f7.ntmps⟩ : St)) (fun z => z.1 ≤ l.length ∧ KSet Tryz.prog 59 z.2.1 z.2.2 (voidS (l.take z.1))) (fun z => l.length - z.1) (0, #[], 0) (⟨Nat.zero_le _, KSet.empty _ _⟩) (St.le_of (by repeat (first | exact trivial | refine ⟨rfl, ?_⟩)) (by repeat (first | exact q_r | apply q_q | apply q_k))) ?_
  intro z hI
  obtain ⟨k, es, clock⟩ := z
  obtain ⟨hI1, hI2⟩ := hI
  dsimp only at hI1 hI2 ⊢
  by_cases hk : k < l.length
  · obtain ⟨s, hs⟩ : ∃ s, l[k]? = some s := get_some hk
    have hg := sl_get hs
    have hsd := hsl s (List.mem_of_getElem? hs)
    by_cases hk3 : s.kind = 3
    · have hnx := void_next hs hk3
      have ho := slip_off hsd.slip hk3
      have hq1 := hsd.tab
      have hq2 := hsd.seq
      have hin : ∀ x ∈ [s.tab, s.off - 1], inR x := fun x hx => by
        simp only [List.mem_cons, List.not_mem_nil, or_false] at hx
        unfold inR
        rcases hx with rfl | rfl <;> omega
      clear hsd hsl
      refine zX (zZ ?_); refine xBi ?_; intro _ _; refine zY ?_; refine zX ?_; refine q_c (fun h h_k => ?_) (fun h h_k => ?_) <;> ((try subst h_k); (have hp := h; try simp only [q_n] at hp); (try (exfalso; first | omega | (cases hp; done))));
      refine zR ?_; refine zX ?_; refine zL ?_; refine zX (zZ ?_); refine xIx ?_; refine xLa ?_; refine xBa ?_; intro _; refine xSt ?_; refine zY ?_; refine zX (zZ ?_); refine xFa ?_; refine xLd ?_; refine xBi ?_; intro _ _; refine zY ?_; refine q_c (fun h h_k => ?_) (fun h h_k => ?_) <;> ((try subst h_k); (have hp := h; try simp only [q_n] at hp); (try (exfalso; first | omega | (cases hp; done))));
      refine zZ ?_; refine xMv ?_; refine xFa ?_; refine xLd ?_; refine xFa ?_; refine xLd ?_; refine xSu ?_; apply zQ; rfl; rfl; rfl; (apply g_buildArr; rfl; rfl; rfl; rfl); show EXL _ _ _ ({ dst := _, op := .mapUpdate _ _ _ _, type := _, pos := _, after := _, guard := _ } :: _) _ _; refine exl_updK rfl rfl (g_updateK (ns := [s.tab, s.off - 1]) rfl k2Law rfl rfl rfl (fun _ => (by (exact Upd.there (Upd.here)))) hI2 rfl k2Key rfl hin) ?_; intro es2 clock2 hS2; refine zN ?_; refine zZ ?_; refine xAd ?_; refine xMv ?_; refine zN ?_; simp only [zP, zU, zT, zW, retA, ↓reduceIte, Nat.reduceEqDiff]; rotate_left
      (all_goals (repeat (rename BV _ _ => hbv; first | cases hbv | clear hbv)))
      all_goals (try (first | cases ‹true = false› | cases ‹false = true›))
      rw [hnx] at hS2
      refine ⟨(k + 1, es2, clock2), ⟨hk, hS2⟩, by dsimp only; omega, ?_⟩
      dsimp only
      exact q_le
    · rw [← void_skip hs hk3] at hI2
      clear hsd hsl
      refine zX (zZ ?_); refine xBi ?_; intro _ _; refine zY ?_; refine zX ?_; refine q_c (fun h h_k => ?_) (fun h h_k => ?_) <;> ((try subst h_k); (have hp := h; try simp only [q_n] at hp); (try (exfalso; first | omega | (cases hp; done))));
      refine zR ?_; refine zX ?_; refine zL ?_; refine zX (zZ ?_); refine xIx ?_; refine xLa ?_; refine xBa ?_; intro _; refine xSt ?_; refine zY ?_; refine zX (zZ ?_); refine xFa ?_; refine xLd ?_; refine xBi ?_; intro _ _; refine zY ?_; refine q_c (fun h h_k => ?_) (fun h h_k => ?_) <;> ((try subst h_k); (have hp := h; try simp only [q_n] at hp); (try (exfalso; first | omega | (cases hp; done))));
      refine zR ?_; refine zZ ?_; refine xAd ?_; refine xMv ?_; refine zN ?_; simp only [zP, zU, zT, zW, retA, ↓reduceIte, Nat.reduceEqDiff]; rotate_left
      (all_goals (repeat (rename BV _ _ => hbv; first | cases hbv | clear hbv)))
      all_goals (try (first | cases ‹true = false› | cases ‹false = true›))
      refine ⟨(k + 1, es, clock), ⟨hk, hI2⟩, by dsimp only; omega, ?_⟩
      dsimp only
      exact q_le
  · have e : k = l.length := by omega
    subst e
    rw [List.take_length] at hI2
    have hV := hI2
    clear hI1 hk hI2
    refine zX (zZ ?_); refine xBi ?_; intro _ _; refine zY ?_; refine zX ?_; refine q_c (fun h h_k => ?_) (fun h h_k => ?_) <;> ((try subst h_k); (have hp := h; try simp only [q_n] at hp); (try (exfalso; first | omega | (cases hp; done))));
    refine ex_exit ?_; refine zX (zZ ?_); refine exl_map rfl rfl rfl (by exact g_makeMap) ?_; intro _; refine exl_map rfl rfl rfl (by exact g_makeMap) ?_; intro _; refine xAs ?_; refine xAs ?_; refine zY ?_; refine zX ?_; refine zX (zZ ?_); refine xMv ?_; refine xLn ?_; refine xMv ?_; refine zY ?_; refine zL ?_; rotate_left
    (all_goals (repeat (rename BV _ _ => hbv; first | cases hbv | clear hbv)))
    all_goals (try (first | cases ‹true = false› | cases ‹false = true›))
    rename Nat => bt; revert bt; rename Nat => bs; revert bs
    intro bs bt
    refine ex_loop (fun (z : Nat × Nat) => (⟨[(1, .int .u8 w), (2, .ptr b2 0), (5, .dl 4 (T.map tnC)), (7, .mp bv), (10, .mp bs), (11, .mp bt), (76, .dl 4 (T.map tnC)), (77, .int .i64 T.length), (78, .int .i64 z.1)], .imap bt (boolM (N.take z.1).contains) z.1 :: .imap bs (seenA (seqN l (N.take z.1))) z.2 :: [.obj bv (.map es clock), bkE b2 l], [], Tryz.f7.ntmps⟩ : St)) (fun z => z.1 ≤ T.length) (fun z => T.length - z.1) (0, 0) (Nat.zero_le _) (St.le_of (by repeat (first | exact trivial | refine ⟨rfl, ?_⟩)) (by repeat (first | exact q_r | apply q_q | apply q_k))) ?_
    intro z hI
    obtain ⟨i, c⟩ := z
    dsimp only at hI ⊢
    have hTN : T.length = N.length := by rw [← hT, List.length_map]
    by_cases hi : i < T.length
    · obtain ⟨n, hn⟩ : ∃ n, N[i]? = some n := get_some (by omega)
      have hTi : T[i]? = some (turnS l n) := by rw [← hT, List.getElem?_map, hn]; rfl
      have hg := tnC_get hTi
      have hnn : n ∉ N.take i := fun hm => by
        obtain ⟨j, hj⟩ := List.getElem?_of_mem hm
        rw [List.getElem?_take] at hj
        split at hj
        · have h1 := List.pairwise_iff_getElem.1 hup j i (get_lt hj) (get_lt hn) (by assumption)
          rw [(List.getElem?_eq_some_iff.1 hj).2, (List.getElem?_eq_some_iff.1 hn).2] at h1
          omega
        · cases hj
      have htk : N.take (i + 1) = N.take i ++ [n] := by rw [List.take_add_one, hn]; rfl
      have hsq : seqN l (N.take (i + 1)) = seqN l (N.take i) ++ seqT l n := by rw [htk]; unfold seqN; rw [List.flatMap_append]; simp
      have hprev : ∀ j : Nat, i = j + 1 → ∃ m, (T.map tnC)[j]? = some (tnC (turnS l m)) ∧ (turnS l m).turn < n := fun j hj => by
        obtain ⟨m, hm⟩ : ∃ m, N[j]? = some m := get_some (by omega)
        refine ⟨m, tnC_get (by rw [← hT, List.getElem?_map, hm]; rfl), ?_⟩
        rw [turn_no]
        have h1 := List.pairwise_iff_getElem.1 hup j i (get_lt hm) (get_lt hn) (by omega)
        rwa [(List.getElem?_eq_some_iff.1 hm).2, (List.getElem?_eq_some_iff.1 hn).2] at h1
      have hcnt : (if ((boolM (N.take i).contains) n).isSome then i else i + 1) = i + 1 := by rw [if_neg (by rw [boolM_new hnn]; simp)]
      rcases turn_cases hbk n with ⟨g, hG, hseq, htx, htu, htl⟩ | ⟨hseq, f, htx⟩
      · rw [htx] at hg
        obtain ⟨tl, htl0⟩ : ∃ tl, (seqT l n).tail = tl := ⟨_, rfl⟩
        rw [htl0] at hseq hg htu htl
        have hg : (T.map tnC)[i]? = some [.int .i64 n, .int .i64 g.2.farm, .int .i64 ((g.1 : Int) + 1), ints (tl.map fun e => (e.1 : Int))] := hg
        have hgl := (entL_get.1 hG.mem.1).1
        have hgg := sl_get hgl
        have hgt := hG.mem.2.1
        have hglt := get_lt hgl
        have hold : ∀ x ∈ seqN l (N.take i), ∀ e : Ey, e ∈ entL l → e.2.turn = n → x.1 ≠ e.1 := fun x hx e he hen h1 => by
          obtain ⟨h2, h3, _⟩ := (seqN_mem hbk).1 hx
          have := ent_key h2 he h1
          subst this
          rw [hen] at h3
          exact hnn h3
        have htm : ∀ e ∈ tl, e ∈ entL l ∧ e.2.turn = n := fun e he => by
          have h1 : e ∈ seqT l n := by rw [hseq]; exact List.mem_cons_of_mem _ he
          have := (seqT_mem hbk).1 h1
          exact ⟨this.1, this.2.1⟩
        have hupd : updA (seenA (seqN l (N.take i))) ((g.1 : Int) + 1 - 1) (.int .i64 n) = seenA (seqN l (N.take i) ++ [g] ++ tl.take 0) := by rw [List.take_zero, List.append_nil]; exact seenA_upd (fun x hx => hold x hx g hG.mem.1 hgt) (by omega) hgt.symm
        rw [hseq, show seqN l (N.take i) ++ g :: tl = seqN l (N.take i) ++ [g] ++ tl by simp] at hsq
        have hord : ∀ e ∈ tl, g.2.hour < e.2.hour ∨ (g.2.hour = e.2.hour ∧ (g.2.tab < e.2.tab ∨ (g.2.tab = e.2.tab ∧ g.2.seq < e.2.seq))) := fun e he => by
          obtain ⟨h1, h2⟩ := htl e he
          rcases h2 with h2 | ⟨h2, h3⟩
          · exact .inl h2
          · have h4 := book_up (book_char.2 hbk) g.1 e.1 g.2 e.2 h3 hgl (entL_get.1 (htm e he).1).1
            unfold ltS at h4
            omega
        have htn : ∀ e ∈ tl, ∀ x ∈ seqN l (N.take i) ++ [g], x.1 ≠ e.1 := fun e he x hx => by
          rcases List.mem_append.1 hx with hx | hx
          · exact hold x hx e (htm e he).1 (htm e he).2
          · rw [List.mem_singleton] at hx; subst hx; exact fun h => (htl e he).1 h.symm
        have hz1 : (g.1 : Int) + 1 - 1 = (g.1 : Int) := by omega
        clear hold hsl hTi hG htx
        generalize seqN l (N.take i) = SN0 at *
        apply use_rest (P := Tryz.prog) (ro := none) (fun (y : Nat × Nat) => (⟨[(1, .int .u8 w), (2, .ptr b2 0), (5, .dl 4 (T.map tnC)), (7, .mp bv), (10, .mp bs), (11, .mp bt), (76, .dl 4 (T.map tnC)), (77, .int .i64 T.length), (78, .int .i64 i), (13, .ptr y.1 0), (144, ints (tl.map fun e => (e.1 : Int))), (145, .int .i64 (tl.map fun e => (e.1 : Int)).length), (146, .int .i64 0)], .cells y.1 [.int .i64 n, .int .i64 g.2.farm, .int .i64 ((g.1 : Int) + 1), ints (tl.map fun e => (e.1 : Int))] 64 :: .imap bt (boolM (N.take i ++ [n]).contains) (i + 1) :: .imap bs (seenA (SN0 ++ [g] ++ tl.take 0)) y.2 :: [.obj bv (.map es clock), bkE b2 l], [], Tryz.f7.ntmps⟩ : St)) (fun _ => True)
        · intro rest
          by_cases hi0 : i = 0
          · refine zX (zZ ?_); refine xBi ?_; intro _ _; refine zY ?_; refine zX ?_; refine q_c (fun h h_k => ?_) (fun h h_k => ?_) <;> ((try subst h_k); (have hp := h; try simp only [q_n] at hp); (try (exfalso; first | omega | (cases hp; done))));
            refine zR ?_; refine zX ?_; refine zL ?_; refine zX (zZ ?_); refine xMv ?_; refine xIx ?_; refine xLa ?_; refine xBa ?_; intro _; refine xAs ?_; refine xSt ?_; refine zY ?_; refine zX ?_; refine zX ?_; refine ex_drawP rfl rfl (by kernel_rfl) rfl ?_; refine ex_drawQ rfl (by kernel_rfl) rfl ?_; refine wMv ?_; refine wBi ?_; intro _ _; refine wMv ?_; refine q_w (fun h h_k => ?_) (fun h h_k => ?_) <;> ((try subst h_k); (have hp := h; try simp only [q_n] at hp); (try (exfalso; first | omega | (cases hp; done))));
            refine wSk ?_; refine wSk ?_; refine wSk ?_; refine wSk ?_; refine wSk ?_; refine wSk ?_; refine wSk ?_; refine wSk ?_; refine wSk ?_; apply wl_is; rfl; rfl; rfl; (intro σ' hl; (apply g_pick_f; rfl; (rfl); rfl)); refine wMv ?_; refine vFa ?_; refine vLd ?_; refine vBi ?_; intro _ _; apply wl_is; rfl; rfl; rfl; (intro σ' hl; (apply g_pick_f; rfl; (rfl); rfl)); refine wMv ?_; refine q_w (fun h h_k => ?_) (fun h h_k => ?_) <;> ((try subst h_k); (have hp := h; try simp only [q_n] at hp); (try (exfalso; first | omega | (cases hp; done))));
            refine vFa ?_; refine vLd ?_; refine vFa ?_; refine vLd ?_; apply wl_isW; rfl; (rfl); rfl; rfl; (intro σ' hl; (apply g_len; rfl; rfl; (exact (List.length_map _).symm))); refine vBi ?_; intro _ _; apply wl_is; rfl; rfl; rfl; (intro σ' hl; (apply g_pick_f; rfl; (rfl); rfl)); refine wMv ?_; refine q_w (fun h h_k => ?_) (fun h h_k => ?_) <;> ((try subst h_k); (have hp := h; try simp only [q_n] at hp); (try (exfalso; first | omega | (cases hp; done))));
            refine vFa ?_; refine vLd ?_; refine vBi ?_; intro _ _; refine vMv ?_; refine q_w (fun h h_k => ?_) (fun h h_k => ?_) <;> ((try subst h_k); (have hp := h; try simp only [q_n] at hp); (try (exfalso; first | omega | (cases hp; done))));
            refine wSk ?_; refine wSk ?_; refine wSk ?_; refine wSk ?_; apply wl_isW; rfl; (rfl); rfl; rfl; (intro σ' hl; (apply g_pick_f; rfl; (rfl); rfl)); apply wl_is; rfl; rfl; rfl; (intro σ' hl; (apply g_pick_f; rfl; (rfl); rfl)); refine wl_nil ?_; show EX _ _ _ _ _; refine ex_cond_f rfl (by rfl) ?_; refine zR ?_; refine zX (zZ ?_); refine xMv ?_; refine xFa ?_; refine xLd ?_; apply exl_do; rfl; rfl; (apply g_mapUpdate; rfl; rfl; rfl; rfl; (exact Upd.there (Upd.here)); (exact boolM_list _ _)); refine zY ?_; refine zX ?_; refine zX (zZ ?_); refine xFa ?_; refine xLd ?_; refine xBi ?_; intro _ _; refine zY ?_; refine q_c (fun h h_k => ?_) (fun h h_k => ?_) <;> ((try subst h_k); (have hp := h; try simp only [q_n] at hp); (try (exfalso; first | omega | (cases hp; done))));
            refine zX (zZ ?_); refine xMv ?_; refine xFa ?_; refine xLd ?_; refine xSu ?_; refine xFa ?_; refine xLd ?_; apply exl_do; rfl; rfl; (apply g_mapUpdate; rfl; rfl; rfl; rfl; (exact Upd.there (Upd.there (Upd.here))); (rfl)); refine zY ?_; refine zX ?_; refine ex_drawP rfl rfl (by kernel_rfl) rfl ?_; refine ex_drawQ rfl (by kernel_rfl) rfl ?_; refine wFa ?_; refine wLd ?_; refine wFa ?_; refine wLd ?_; apply wl_is; rfl; rfl; rfl; (intro σ' hl; (apply g_sub; rfl; rfl; rfl; exact ⟨by omega, by omega⟩)); refine wIx ?_; refine wFa ?_; refine wLd ?_; refine wFa ?_; refine wLd ?_; refine wBi ?_; intro _ _; refine wl_nil ?_; show EX _ _ _ _ _; refine q_c (fun h h_k => ?_) (fun h h_k => ?_) <;> ((try subst h_k); (have hp := h; try simp only [q_n] at hp); (try (exfalso; first | omega | (cases hp; done))));
            refine zR ?_; refine zX (zZ ?_); refine xFa ?_; refine xLd ?_; refine xLn ?_; refine xMv ?_; refine zY ?_; refine zL ?_; rotate_left
            (all_goals (repeat (rename BV _ _ => hbv; first | cases hbv | clear hbv)))
            all_goals (try (first | cases ‹true = false› | cases ‹false = true›))
            rename Nat => b13; revert b13
            intro b13
            refine ex_weaken (s' := ⟨[(1, .int .u8 w), (2, .ptr b2 0), (5, .dl 4 (T.map tnC)), (7, .mp bv), (10, .mp bs), (11, .mp bt), (76, .dl 4 (T.map tnC)), (77, .int .i64 T.length), (78, .int .i64 i), (13, .ptr b13 0), (144, ints (tl.map fun e => (e.1 : Int))), (145, .int .i64 (tl.map fun e => (e.1 : Int)).length), (146, .int .i64 0)], .cells b13 [.int .i64 n, .int .i64 g.2.farm, .int .i64 ((g.1 : Int) + 1), ints (tl.map fun e => (e.1 : Int))] 64 :: .imap bt (boolM (N.take i ++ [n]).contains) (if ((boolM (N.take i).contains) n).isSome then i else i + 1) :: .imap bs (updA (seenA SN0) ((g.1 : Int) + 1 - 1) (.int .i64 n)) (if ((seenA SN0) ((g.1 : Int) + 1 - 1)).isSome then c else c + 1) :: [.obj bv (.map es clock), bkE b2 l], [], Tryz.f7.ntmps⟩) (St.le_of (by repeat (first | exact trivial | refine ⟨rfl, ?_⟩)) (by repeat (first | exact q_r | apply q_q | apply q_k))) ?_
            rw [hcnt, hupd]
            exact rest (b13, _) trivial
          · obtain ⟨j, hj⟩ : ∃ j, i = j + 1 := ⟨i - 1, by omega⟩
            obtain ⟨m, hm1, hm2⟩ := hprev j hj
            have hz : (i : Int) - 1 = (j : Int) := by omega
            generalize turnS l m = y at hm1 hm2
            refine zX (zZ ?_); refine xBi ?_; intro _ _; refine zY ?_; refine zX ?_; refine q_c (fun h h_k => ?_) (fun h h_k => ?_) <;> ((try subst h_k); (have hp := h; try simp only [q_n] at hp); (try (exfalso; first | omega | (cases hp; done))));
            refine zR ?_; refine zX ?_; refine zL ?_; refine zX (zZ ?_); refine xMv ?_; refine xIx ?_; refine xLa ?_; refine xBa ?_; intro _; refine xAs ?_; refine xSt ?_; refine zY ?_; refine zX ?_; refine zX ?_; refine ex_drawP rfl rfl (by kernel_rfl) rfl ?_; refine ex_drawQ rfl (by kernel_rfl) rfl ?_; refine wMv ?_; refine wBi ?_; intro _ _; refine wMv ?_; refine q_w (fun h h_k => ?_) (fun h h_k => ?_) <;> ((try subst h_k); (have hp := h; try simp only [q_n] at hp); (try (exfalso; first | omega | (cases hp; done))));
            refine vMv ?_; refine vMv ?_; apply wl_isW; rfl; (rfl); rfl; rfl; (intro σ' hl; (apply g_sub; rfl; rfl; rfl; exact ⟨by omega, by omega⟩)); refine vIx ?_; refine vFa ?_; refine vLd ?_; refine vFa ?_; refine vLd ?_; refine vBi ?_; intro _ _; apply wl_is; rfl; rfl; rfl; (intro σ' hl; (apply g_pick_t; rfl; (rfl); rfl)); refine wMv ?_; refine q_w (fun h h_k => ?_) (fun h h_k => ?_) <;> ((try subst h_k); (have hp := h; try simp only [q_n] at hp); (try (exfalso; first | omega | (cases hp; done))));
            refine vFa ?_; refine vLd ?_; refine vBi ?_; intro _ _; apply wl_is; rfl; rfl; rfl; (intro σ' hl; (apply g_pick_f; rfl; (rfl); rfl)); refine wMv ?_; refine q_w (fun h h_k => ?_) (fun h h_k => ?_) <;> ((try subst h_k); (have hp := h; try simp only [q_n] at hp); (try (exfalso; first | omega | (cases hp; done))));
            refine vFa ?_; refine vLd ?_; refine vFa ?_; refine vLd ?_; apply wl_isW; rfl; (rfl); rfl; rfl; (intro σ' hl; (apply g_len; rfl; rfl; (exact (List.length_map _).symm))); refine vBi ?_; intro _ _; apply wl_is; rfl; rfl; rfl; (intro σ' hl; (apply g_pick_f; rfl; (rfl); rfl)); refine wMv ?_; refine q_w (fun h h_k => ?_) (fun h h_k => ?_) <;> ((try subst h_k); (have hp := h; try simp only [q_n] at hp); (try (exfalso; first | omega | (cases hp; done))));
            refine vFa ?_; refine vLd ?_; refine vBi ?_; intro _ _; refine vMv ?_; refine q_w (fun h h_k => ?_) (fun h h_k => ?_) <;> ((try subst h_k); (have hp := h; try simp only [q_n] at hp); (try (exfalso; first | omega | (cases hp; done))));
            refine wSk ?_; refine wSk ?_; refine wSk ?_; refine wSk ?_; apply wl_isW; rfl; (rfl); rfl; rfl; (intro σ' hl; (apply g_pick_f; rfl; (rfl); rfl)); apply wl_is; rfl; rfl; rfl; (intro σ' hl; (apply g_pick_f; rfl; (rfl); rfl)); refine wl_nil ?_; show EX _ _ _ _ _; refine ex_cond_f rfl (by rfl) ?_; refine zR ?_; refine zX (zZ ?_); refine xMv ?_; refine xFa ?_; refine xLd ?_; apply exl_do; rfl; rfl; (apply g_mapUpdate; rfl; rfl; rfl; rfl; (exact Upd.there (Upd.here)); (exact boolM_list _ _)); refine zY ?_; refine zX ?_; refine zX (zZ ?_); refine xFa ?_; refine xLd ?_; refine xBi ?_; intro _ _; refine zY ?_; refine q_c (fun h h_k => ?_) (fun h h_k => ?_) <;> ((try subst h_k); (have hp := h; try simp only [q_n] at hp); (try (exfalso; first | omega | (cases hp; done))));
            refine zX (zZ ?_); refine xMv ?_; refine xFa ?_; refine xLd ?_; refine xSu ?_; refine xFa ?_; refine xLd ?_; apply exl_do; rfl; rfl; (apply g_mapUpdate; rfl; rfl; rfl; rfl; (exact Upd.there (Upd.there (Upd.here))); (rfl)); refine zY ?_; refine zX ?_; refine ex_drawP rfl rfl (by kernel_rfl) rfl ?_; refine ex_drawQ rfl (by kernel_rfl) rfl ?_; refine wFa ?_; refine wLd ?_; refine wFa ?_; refine wLd ?_; apply wl_is; rfl; rfl; rfl; (intro σ' hl; (apply g_sub; rfl; rfl; rfl; exact ⟨by omega, by omega⟩)); refine wIx ?_; refine wFa ?_; refine wLd ?_; refine wFa ?_; refine wLd ?_; refine wBi ?_; intro _ _; refine wl_nil ?_; show EX _ _ _ _ _; refine q_c (fun h h_k => ?_) (fun h h_k => ?_) <;> ((try subst h_k); (have hp := h; try simp only [q_n] at hp); (try (exfalso; first | omega | (cases hp; done))));
            refine zR ?_; refine zX (zZ ?_); refine xFa ?_; refine xLd ?_; refine xLn ?_; refine xMv ?_; refine zY ?_; refine zL ?_; rotate_left
            (all_goals (repeat (rename BV _ _ => hbv; first | cases hbv | clear hbv)))
            all_goals (try (first | cases ‹true = false› | cases ‹false = true›))
            rename Nat => b13; revert b13
            intro b13
            refine ex_weaken (s' := ⟨[(1, .int .u8 w), (2, .ptr b2 0), (5, .dl 4 (T.map tnC)), (7, .mp bv), (10, .mp bs), (11, .mp bt), (76, .dl 4 (T.map tnC)), (77, .int .i64 T.length), (78, .int .i64 i), (13, .ptr b13 0), (144, ints (tl.map fun e => (e.1 : Int))), (145, .int .i64 (tl.map fun e => (e.1 : Int)).length), (146, .int .i64 0)], .cells b13 [.int .i64 n, .int .i64 g.2.farm, .int .i64 ((g.1 : Int) + 1), ints (tl.map fun e => (e.1 : Int))] 64 :: .imap bt (boolM (N.take i ++ [n]).contains) (if ((boolM (N.take i).contains) n).isSome then i else i + 1) :: .imap bs (updA (seenA SN0) ((g.1 : Int) + 1 - 1) (.int .i64 n)) (if ((seenA SN0) ((g.1 : Int) + 1 - 1)).isSome then c else c + 1) :: [.obj bv (.map es clock), bkE b2 l], [], Tryz.f7.ntmps⟩) (St.le_of (by repeat (first | exact trivial | refine ⟨rfl, ?_⟩)) (by repeat (first | exact q_r | apply q_q | apply q_k))) ?_
            rw [hcnt, hupd]
            exact rest (b13, _) trivial
        · rintro ⟨b13, c1⟩ _
          dsimp only
          refine ex_loop (fun (z : Nat × Nat) => (⟨[(1, .int .u8 w), (2, .ptr b2 0), (5, .dl 4 (T.map tnC)), (7, .mp bv), (10, .mp bs), (11, .mp bt), (76, .dl 4 (T.map tnC)), (77, .int .i64 T.length), (78, .int .i64 i), (13, .ptr b13 0), (144, ints (tl.map fun e => (e.1 : Int))), (145, .int .i64 (tl.map fun e => (e.1 : Int)).length), (146, .int .i64 z.1)], .cells b13 [.int .i64 n, .int .i64 g.2.farm, .int .i64 ((g.1 : Int) + 1), ints (tl.map fun e => (e.1 : Int))] 64 :: .imap bt (boolM (N.take i ++ [n]).contains) (i + 1) :: .imap bs (seenA (SN0 ++ [g] ++ tl.take z.1)) z.2 :: [.obj bv (.map es clock), bkE b2 l], [], Tryz.f7.ntmps⟩ : St)) (fun z => z.1 ≤ tl.length) (fun z => tl.length - z.1) (0, c1) (Nat.zero_le _) (St.le_of (by repeat (first | exact trivial | refine ⟨rfl, ?_⟩)) (by repeat (first | exact q_r | apply q_q | apply q_k))) ?_
          intro z hI
          obtain ⟨k, c2⟩ := z
          dsimp only at hI ⊢
          have htll : (tl.map fun e => (e.1 : Int)).length = tl.length := List.length_map _
          by_cases hk : k < tl.length
          · obtain ⟨e, he⟩ : ∃ e, tl[k]? = some e := get_some hk
            have hem := List.mem_of_getElem? he
            have hgi : ((tl.map fun e => (e.1 : Int)).map intC)[k]? = some (intC (e.1 : Int)) := by rw [List.getElem?_map, List.getElem?_map, he]; rfl
            have hel := (entL_get.1 (htm e hem).1).1
            have hge := sl_get hel
            have hell := get_lt hel
            have hke := up_ge htu k e he
            have hor := hord e hem
            have hfr : ∀ x ∈ SN0 ++ [g] ++ tl.take k, x.1 ≠ e.1 := fun x hx => by
              rcases List.mem_append.1 hx with hx | hx
              · exact htn e hem x hx
              · obtain ⟨j, hj⟩ := List.getElem?_of_mem hx
                rw [List.getElem?_take] at hj
                split at hj
                · have h1 := List.pairwise_iff_getElem.1 htu j k (get_lt hj) hk (by assumption)
                  rw [(List.getElem?_eq_some_iff.1 hj).2, (List.getElem?_eq_some_iff.1 he).2] at h1
                  omega
                · cases hj
            have hsn : seenA (SN0 ++ [g] ++ tl.take k) (e.1 : Int) = none := by
              unfold seenA
              rw [seen_none fun x hx => by have := hfr x hx; omega]; rfl
            have hup2 : updA (seenA (SN0 ++ [g] ++ tl.take k)) (e.1 : Int) (.int .i64 n) = seenA (SN0 ++ [g] ++ tl.take (k + 1)) := by
              rw [seenA_upd hfr rfl (htm e hem).2.symm, List.append_assoc, ← show tl.take (k + 1) = tl.take k ++ [e] by rw [List.take_add_one, he]; rfl]
            have hpr : ∀ j : Nat, k = j + 1 → ∃ q : Nat, ((tl.map fun e => (e.1 : Int)).map intC)[j]? = some (intC (q : Int)) ∧ q < e.1 := fun j hj => by
              obtain ⟨m, hm⟩ : ∃ m, tl[j]? = some m := get_some (by omega)
              refine ⟨m.1, by rw [List.getElem?_map, List.getElem?_map, hm]; rfl, ?_⟩
              have h1 := List.pairwise_iff_getElem.1 htu j k (get_lt hm) hk (by omega)
              rwa [(List.getElem?_eq_some_iff.1 hm).2, (List.getElem?_eq_some_iff.1 he).2] at h1
            apply use_rest (P := Tryz.prog) (ro := none) (fun (_ : Unit) => (⟨[(1, .int .u8 w), (2, .ptr b2 0), (5, .dl 4 (T.map tnC)), (7, .mp bv), (10, .mp bs), (11, .mp bt), (76, .dl 4 (T.map tnC)), (77, .int .i64 T.length), (78, .int .i64 i), (13, .ptr b13 0), (14, .int .i64 k), (15, .int .i64 (e.1 : Int)), (144, ints (tl.map fun e => (e.1 : Int))), (145, .int .i64 (tl.map fun e => (e.1 : Int)).length), (146, .int .i64 k)], .cells b13 [.int .i64 n, .int .i64 g.2.farm, .int .i64 ((g.1 : Int) + 1), ints (tl.map fun e => (e.1 : Int))] 64 :: .imap bt (boolM (N.take i ++ [n]).contains) (i + 1) :: .imap bs (seenA (SN0 ++ [g] ++ tl.take k)) c2 :: [.obj bv (.map es clock), bkE b2 l], [], Tryz.f7.ntmps⟩ : St)) (fun _ => True)
            · intro rest
              by_cases hk0 : k = 0
              · refine zX (zZ ?_); refine xBi ?_; intro _ _; refine zY ?_; refine zX ?_; refine q_c (fun h h_k => ?_) (fun h h_k => ?_) <;> ((try subst h_k); (have hp := h; try simp only [q_n] at hp); (try (exfalso; first | omega | (cases hp; done))));
                refine zR ?_; refine zX ?_; refine zL ?_; refine zX (zZ ?_); refine xMv ?_; refine xIx ?_; refine xLd ?_; refine xAs ?_; refine xAs ?_; refine zY ?_; refine zX ?_; refine zX (zZ ?_); refine xMv ?_; refine xBi ?_; intro _ _; refine xMv ?_; refine q_d (fun h h_k => ?_) (fun h h_k => ?_) <;> ((try subst h_k); (have hp := h; try simp only [q_n] at hp); (try (exfalso; first | omega | (cases hp; done))));
                refine yMv ?_; refine yFa ?_; refine yLd ?_; apply exl_isW; rfl; (rfl); rfl; rfl; (apply g_len; rfl; rfl; (exact (List.length_map _).symm)); refine yBi ?_; intro _ _; refine xPf ?_; refine xMv ?_; refine q_d (fun h h_k => ?_) (fun h h_k => ?_) <;> ((try subst h_k); (have hp := h; try simp only [q_n] at hp); (try (exfalso; first | omega | (cases hp; done))));
                refine yMv ?_; refine yBi ?_; intro _ _; refine yMv ?_; refine q_d (fun h h_k => ?_) (fun h h_k => ?_) <;> ((try subst h_k); (have hp := h; try simp only [q_n] at hp); (try (exfalso; first | omega | (cases hp; done))));
                refine xSk ?_; refine xSk ?_; refine xSk ?_; refine xSk ?_; refine xSk ?_; refine xSk ?_; refine xSk ?_; refine xSk ?_; apply exl_isW; rfl; (rfl); rfl; rfl; (apply g_pick_f; rfl; (rfl); rfl); refine xPf ?_; refine zY ?_; refine ex_cond_f rfl (by rfl) ?_; refine zR ?_; refine zX ?_; rotate_left
                (all_goals (repeat (rename BV _ _ => hbv; first | cases hbv | clear hbv)))
                all_goals (try (first | cases ‹true = false› | cases ‹false = true›))
                refine ex_weaken (s' := ⟨[(1, .int .u8 w), (2, .ptr b2 0), (5, .dl 4 (T.map tnC)), (7, .mp bv), (10, .mp bs), (11, .mp bt), (76, .dl 4 (T.map tnC)), (77, .int .i64 T.length), (78, .int .i64 i), (13, .ptr b13 0), (14, .int .i64 k), (15, .int .i64 (e.1 : Int)), (144, ints (tl.map fun e => (e.1 : Int))), (145, .int .i64 (tl.map fun e => (e.1 : Int)).length), (146, .int .i64 k)], .cells b13 [.int .i64 n, .int .i64 g.2.farm, .int .i64 ((g.1 : Int) + 1), ints (tl.map fun e => (e.1 : Int))] 64 :: .imap bt (boolM (N.take i ++ [n]).contains) (i + 1) :: .imap bs (seenA (SN0 ++ [g] ++ tl.take k)) c2 :: [.obj bv (.map es clock), bkE b2 l], [], Tryz.f7.ntmps⟩) (St.le_of (by repeat (first | exact trivial | refine ⟨rfl, ?_⟩)) (by repeat (first | exact q_r | apply q_q | apply q_k))) ?_
                exact rest () trivial
              · obtain ⟨j, hj⟩ : ∃ j, k = j + 1 := ⟨k - 1, by omega⟩
                obtain ⟨q, hq1, hq2⟩ := hpr j hj
                have hzk : (k : Int) - 1 = (j : Int) := by omega
                refine zX (zZ ?_); refine xBi ?_; intro _ _; refine zY ?_; refine zX ?_; refine q_c (fun h h_k => ?_) (fun h h_k => ?_) <;> ((try subst h_k); (have hp := h; try simp only [q_n] at hp); (try (exfalso; first | omega | (cases hp; done))));
                refine zR ?_; refine zX ?_; refine zL ?_; refine zX (zZ ?_); refine xMv ?_; refine xIx ?_; refine xLd ?_; refine xAs ?_; refine xAs ?_; refine zY ?_; refine zX ?_; refine zX (zZ ?_); refine xMv ?_; refine xBi ?_; intro _ _; refine xMv ?_; refine q_d (fun h h_k => ?_) (fun h h_k => ?_) <;> ((try subst h_k); (have hp := h; try simp only [q_n] at hp); (try (exfalso; first | omega | (cases hp; done))));
                refine yMv ?_; refine yFa ?_; refine yLd ?_; apply exl_isW; rfl; (rfl); rfl; rfl; (apply g_len; rfl; rfl; (exact (List.length_map _).symm)); refine yBi ?_; intro _ _; refine xPf ?_; refine xMv ?_; refine q_d (fun h h_k => ?_) (fun h h_k => ?_) <;> ((try subst h_k); (have hp := h; try simp only [q_n] at hp); (try (exfalso; first | omega | (cases hp; done))));
                refine yMv ?_; refine yBi ?_; intro _ _; refine yMv ?_; refine q_d (fun h h_k => ?_) (fun h h_k => ?_) <;> ((try subst h_k); (have hp := h; try simp only [q_n] at hp); (try (exfalso; first | omega | (cases hp; done))));
                refine yFa ?_; refine yLd ?_; refine yMv ?_; apply exl_isW; rfl; (rfl); rfl; rfl; (apply g_sub; rfl; rfl; rfl; exact ⟨by omega, by omega⟩); refine yIx ?_; refine yLd ?_; refine yMv ?_; refine yBi ?_; intro _ _; apply exl_isW; rfl; (rfl); rfl; rfl; (apply g_pick_t; rfl; (rfl); rfl); refine xPf ?_; refine zY ?_; refine q_c (fun h h_k => ?_) (fun h h_k => ?_) <;> ((try subst h_k); (have hp := h; try simp only [q_n] at hp); (try (exfalso; first | omega | (cases hp; done))));
                refine zR ?_; refine zX ?_; rotate_left
                (all_goals (repeat (rename BV _ _ => hbv; first | cases hbv | clear hbv)))
                all_goals (try (first | cases ‹true = false› | cases ‹false = true›))
                refine ex_weaken (s' := ⟨[(1, .int .u8 w), (2, .ptr b2 0), (5, .dl 4 (T.map tnC)), (7, .mp bv), (10, .mp bs), (11, .mp bt), (76, .dl 4 (T.map tnC)), (77, .int .i64 T.length), (78, .int .i64 i), (13, .ptr b13 0), (14, .int .i64 k), (15, .int .i64 (e.1 : Int)), (144, ints (tl.map fun e => (e.1 : Int))), (145, .int .i64 (tl.map fun e => (e.1 : Int)).length), (146, .int .i64 k)], .cells b13 [.int .i64 n, .int .i64 g.2.farm, .int .i64 ((g.1 : Int) + 1), ints (tl.map fun e => (e.1 : Int))] 64 :: .imap bt (boolM (N.take i ++ [n]).contains) (i + 1) :: .imap bs (seenA (SN0 ++ [g] ++ tl.take k)) c2 :: [.obj bv (.map es clock), bkE b2 l], [], Tryz.f7.ntmps⟩) (St.le_of (by repeat (first | exact trivial | refine ⟨rfl, ?_⟩)) (by repeat (first | exact q_r | apply q_q | apply q_k))) ?_
                exact rest () trivial
            · rintro _ _
              clear hfr hpr htm hord htn
              refine ex_joinT (fun (z : Nat × Nat) => (⟨[(1, .int .u8 w), (2, .ptr b2 0), (5, .dl 4 (T.map tnC)), (7, .mp bv), (10, .mp bs), (11, .mp bt), (76, .dl 4 (T.map tnC)), (77, .int .i64 T.length), (78, .int .i64 i), (13, .ptr b13 0), (14, .int .i64 k), (15, .int .i64 (e.1 : Int)), (144, ints (tl.map fun e => (e.1 : Int))), (145, .int .i64 (tl.map fun e => (e.1 : Int)).length), (146, .int .i64 k), (16, .ptr z.1 0), (17, .ptr z.2 0)], .cells z.1 (slC g.2) 43 :: .cells z.2 (slC e.2) 43 :: .cells b13 [.int .i64 n, .int .i64 g.2.farm, .int .i64 ((g.1 : Int) + 1), ints (tl.map fun e => (e.1 : Int))] 64 :: .imap bt (boolM (N.take i ++ [n]).contains) (i + 1) :: .imap bs (seenA (SN0 ++ [g] ++ tl.take k)) c2 :: [.obj bv (.map es clock), bkE b2 l], [], Tryz.f7.ntmps⟩ : St)) ?_ ?_
              · refine ex_drfT (fun x => x = .cells b13 [.int .i64 n, .int .i64 g.2.farm, .int .i64 ((g.1 : Int) + 1), ints (tl.map fun e => (e.1 : Int))] 64 ∨ x = bkE b2 l) [12, 13, 14, 15] 16 rfl (by kernel_rfl) rfl ?_
                refine dVl ?_; refine dFa ?_; refine dVl ?_; refine dLd ?_; refine dVl ?_; refine dFa ?_; refine dVl ?_; refine dLd ?_; refine dVl ?_; apply drv_is; rfl; rfl; (intro σ' hl; (apply g_sub; rfl; rfl; rfl; exact ⟨by omega, by omega⟩)); refine dVl ?_; apply drv_is; rfl; rfl; (intro σ' hl; (apply g_indexDl; rfl; rfl; rfl; (assumption); (assumption))); refine dVl ?_; refine dLa ?_; refine dVl ?_; refine dFa ?_; refine dVl ?_; refine dLd ?_; refine dVl ?_; refine dMv ?_; refine dVl ?_; apply drv_is; rfl; rfl; (intro σ' hl; (apply g_indexDl; rfl; rfl; rfl; (rfl); (assumption))); refine dVl ?_; refine dLa ?_; refine drf_two rfl rfl rfl ?_ ?_; refine drs_box rfl rfl (g_alloc rfl) ?_; intro _; refine drf_one rfl rfl ?_; refine drs_box rfl rfl (g_alloc rfl) ?_; intro _; refine drf_one rfl rfl ?_; apply drs_do; rfl; rfl; (apply g_store'; rfl; rfl; rfl; (exact Upd.there (Upd.here)); (simp only [setL, q_z, AV.cells]; rfl); rfl; rfl; rfl; exact q_b rfl); (rintro _ (rfl | rfl | rfl) _ <;> exact (by (repeat first | exact q_h | apply q_t | assumption); done)); refine drf_one rfl rfl ?_; apply drs_do; rfl; rfl; (apply g_store'; rfl; rfl; rfl; (exact Upd.here); (simp only [setL, q_z, AV.cells]; rfl); rfl; rfl; rfl; exact q_b rfl); (rintro _ (rfl | rfl | rfl) _ <;> exact (by (repeat first | exact q_h | apply q_t | assumption); done)); refine drf_nil rfl ?_; refine zN ?_; simp only [zP, zU, zT, zW, retA, ↓reduceIte, Nat.reduceEqDiff]; rotate_left; refine drs_box rfl rfl (g_alloc rfl) ?_; intro _; refine drf_one rfl rfl ?_; refine drs_box rfl rfl (g_alloc rfl) ?_; intro _; refine drf_one rfl rfl ?_; apply drs_do; rfl; rfl; (apply g_store'; rfl; rfl; rfl; (exact Upd.here); (simp only [setL, q_z, AV.cells]; rfl); rfl; rfl; rfl; exact q_b rfl); (rintro _ (rfl | rfl | rfl) _ <;> exact (by (repeat first | exact q_h | apply q_t | assumption); done)); refine drf_one rfl rfl ?_; apply drs_do; rfl; rfl; (apply g_store'; rfl; rfl; rfl; (exact Upd.there (Upd.here)); (simp only [setL, q_z, AV.cells]; rfl); rfl; rfl; rfl; exact q_b rfl); (rintro _ (rfl | rfl | rfl) _ <;> exact (by (repeat first | exact q_h | apply q_t | assumption); done)); refine drf_nil rfl ?_; refine zN ?_; simp only [zP, zU, zT, zW, retA, ↓reduceIte, Nat.reduceEqDiff]; rotate_left
                (all_goals (repeat (rename BV _ _ => hbv; first | cases hbv | clear hbv)))
                all_goals (try (first | cases ‹true = false› | cases ‹false = true›))
                · exact ⟨(_, _), _, .swap _ _ _, (St.le_of (by repeat (first | exact trivial | refine ⟨rfl, ?_⟩)) (by repeat (first | exact q_r | apply q_q | apply q_k | exact q_a)))⟩
                · exact ⟨(_, _), _, List.Perm.refl _, (St.le_of (by repeat (first | exact trivial | refine ⟨rfl, ?_⟩)) (by repeat (first | exact q_r | apply q_q | apply q_k | exact q_a)))⟩
              · rintro ⟨b16, b17⟩
                dsimp only
                refine zX ?_; refine zX (zZ ?_); refine xMv ?_; refine xMv ?_; show EXL _ _ _ ({ dst := _, op := .lookup _ _ _ true, type := _, pos := _, after := _, guard := _ } :: _) _ _; refine zQ rfl rfl rfl (g_lookupOk (v := .int .i64 0) (ok := false) rfl rfl (by (repeat first | exact q_h | apply q_t | assumption); done) rfl rfl (by rw [hsn]; rfl) (by rw [hsn]; rfl)) ?_; refine xMv ?_; refine xEx ?_; refine xEx ?_; refine xAs ?_; refine xAs ?_; refine zY ?_; refine zX (zZ ?_); refine xMv ?_; refine xMv ?_; refine yFa ?_; refine yLd ?_; refine yFa ?_; refine yLd ?_; refine yBi ?_; intro _ _; refine xPf ?_; refine xMv ?_; refine q_d (fun h h_k => ?_) (fun h h_k => ?_) <;> ((try subst h_k); (have hp := h; try simp only [q_n] at hp); (try (exfalso; first | omega | (cases hp; done))));
                refine yFa ?_; refine yLd ?_; refine yFa ?_; refine yLd ?_; refine yBi ?_; intro _ _; refine yMv ?_; refine q_d (fun h h_k => ?_) (fun h h_k => ?_) <;> ((try subst h_k); (have hp := h; try simp only [q_n] at hp); (try (exfalso; first | omega | (cases hp; done))));
                refine yFa ?_; refine yLd ?_; refine yFa ?_; refine yLd ?_; refine yBi ?_; intro _ _; refine yMv ?_; refine q_d (fun h h_k => ?_) (fun h h_k => ?_) <;> ((try subst h_k); (have hp := h; try simp only [q_n] at hp); (try (exfalso; first | omega | (cases hp; done))));
                refine yFa ?_; refine yLd ?_; refine yFa ?_; refine yLd ?_; refine yBi ?_; intro _ _; refine yMv ?_; refine q_d (fun h h_k => ?_) (fun h h_k => ?_) <;> ((try subst h_k); (have hp := h; try simp only [q_n] at hp); (try (exfalso; first | omega | (cases hp; done))));
                refine yFa ?_; refine yLd ?_; refine yFa ?_; refine yLd ?_; refine yBi ?_; intro _ _; apply exl_isW; rfl; (rfl); rfl; rfl; (apply g_pick_t; rfl; (rfl); rfl); apply exl_isW; rfl; (rfl); rfl; rfl; (apply g_pick_f; rfl; (rfl); rfl); apply exl_isW; rfl; (rfl); rfl; rfl; (apply g_pick_t; rfl; (rfl); rfl); refine xPf ?_; refine zY ?_; refine q_c (fun h h_k => ?_) (fun h h_k => ?_) <;> ((try subst h_k); (have hp := h; try simp only [q_n] at hp); (try (exfalso; first | omega | (cases hp; done))));
                refine zR ?_; refine zZ ?_; refine xMv ?_; refine xMv ?_; refine xFa ?_; refine xLd ?_; apply exl_do; rfl; rfl; (apply g_mapUpdate; rfl; rfl; rfl; rfl; (exact Upd.there (Upd.there (Upd.there (Upd.there (Upd.here))))); (rfl)); refine zN ?_; refine zZ ?_; refine xAd ?_; refine xMv ?_; refine zN ?_; simp only [zP, zU, zT, zW, retA, ↓reduceIte, Nat.reduceEqDiff]; rotate_left; refine xSk ?_; refine xSk ?_; refine xSk ?_; refine xSk ?_; refine xSk ?_; apply exl_isW; rfl; (rfl); rfl; rfl; (apply g_pick_f; rfl; (rfl); rfl); apply exl_isW; rfl; (rfl); rfl; rfl; (apply g_pick_f; rfl; (rfl); rfl); apply exl_isW; rfl; (rfl); rfl; rfl; (apply g_pick_t; rfl; (rfl); rfl); refine xPf ?_; refine zY ?_; refine ex_cond_f rfl (by rfl) ?_; refine zR ?_; refine zZ ?_; refine xMv ?_; refine xMv ?_; refine xFa ?_; refine xLd ?_; apply exl_do; rfl; rfl; (apply g_mapUpdate; rfl; rfl; rfl; rfl; (exact Upd.there (Upd.there (Upd.there (Upd.there (Upd.here))))); (rfl)); refine zN ?_; refine zZ ?_; refine xAd ?_; refine xMv ?_; refine zN ?_; simp only [zP, zU, zT, zW, retA, ↓reduceIte, Nat.reduceEqDiff]; rotate_left; refine xSk ?_; refine xSk ?_; refine xSk ?_; refine xSk ?_; refine xSk ?_; refine xSk ?_; refine xSr ?_; refine xSr ?_; refine xSr ?_; refine xSr ?_; refine xSr ?_; refine xSr ?_; refine xSr ?_; refine xSr ?_; refine xSr ?_; refine xSr ?_; refine xSr ?_; refine xSr ?_; refine xSk ?_; apply exl_isW; rfl; (rfl); rfl; rfl; (apply g_pick_f; rfl; (rfl); rfl); refine xPf ?_; refine zY ?_; refine ex_cond_f rfl (by rfl) ?_; refine zR ?_; refine zZ ?_; refine xMv ?_; refine xMv ?_; refine xFa ?_; refine xLd ?_; apply exl_do; rfl; rfl; (apply g_mapUpdate; rfl; rfl; rfl; rfl; (exact Upd.there (Upd.there (Upd.there (Upd.there (Upd.here))))); (rfl)); refine zN ?_; refine zZ ?_; refine xAd ?_; refine xMv ?_; refine zN ?_; simp only [zP, zU, zT, zW, retA, ↓reduceIte, Nat.reduceEqDiff]; rotate_left
                (all_goals (repeat (rename BV _ _ => hbv; first | cases hbv | clear hbv)))
                all_goals (try (first | cases ‹true = false› | cases ‹false = true›))
                all_goals
                  refine ⟨(k + 1, if ((seenA (SN0 ++ [g] ++ tl.take k)) (e.1 : Int)).isSome then c2 else c2 + 1), hk, by dsimp only; omega, ?_⟩
                  dsimp only
                  rw [← hup2]
                  exact q_le
          · have e : k = tl.length := by omega
            subst e
            refine zX (zZ ?_); refine xBi ?_; intro _ _; refine zY ?_; refine zX ?_; refine q_c (fun h h_k => ?_) (fun h h_k => ?_) <;> ((try subst h_k); (have hp := h; try simp only [q_n] at hp); (try (exfalso; first | omega | (cases hp; done))));
            refine ex_exit ?_; refine zZ ?_; refine xAd ?_; refine xMv ?_; refine zN ?_; simp only [zP, zU, zT, zW, retA, ↓reduceIte, Nat.reduceEqDiff]; rotate_left
            (all_goals (repeat (rename BV _ _ => hbv; first | cases hbv | clear hbv)))
            all_goals (try (first | cases ‹true = false› | cases ‹false = true›))
            refine ⟨(i + 1, c2), hi, by dsimp only; omega, ?_⟩
            dsimp only
            rw [hsq, htk, show SN0 ++ [g] ++ tl = SN0 ++ [g] ++ tl.take tl.length by rw [List.take_length]]
            exact q_le
      · rw [htx] at hg
        rw [hseq, List.append_nil] at hsq
        clear hTi hsl hup hnn hI
        by_cases hi0 : i = 0
        · subst hi0
          refine zX (zZ ?_); refine xBi ?_; intro _ _; refine zY ?_; refine zX ?_; refine q_c (fun h h_k => ?_) (fun h h_k => ?_) <;> ((try subst h_k); (have hp := h; try simp only [q_n] at hp); (try (exfalso; first | omega | (cases hp; done))));
          refine zR ?_; refine zX ?_; refine zL ?_; refine zX (zZ ?_); refine xMv ?_; refine xIx ?_; refine xLa ?_; refine xBa ?_; intro _; refine xAs ?_; refine xSt ?_; refine zY ?_; refine zX ?_; refine zX ?_; refine ex_drawP rfl rfl (by kernel_rfl) rfl ?_; refine ex_drawQ rfl (by kernel_rfl) rfl ?_; refine wMv ?_; refine wBi ?_; intro _ _; refine wMv ?_; refine q_w (fun h h_k => ?_) (fun h h_k => ?_) <;> ((try subst h_k); (have hp := h; try simp only [q_n] at hp); (try (exfalso; first | omega | (cases hp; done))));
          refine wSk ?_; refine wSk ?_; refine wSk ?_; refine wSk ?_; refine wSk ?_; refine wSk ?_; refine wSk ?_; refine wSk ?_; refine wSk ?_; apply wl_is; rfl; rfl; rfl; (intro σ' hl; (apply g_pick_f; rfl; (rfl); rfl)); refine wMv ?_; refine vFa ?_; refine vLd ?_; refine vBi ?_; intro _ _; apply wl_is; rfl; rfl; rfl; (intro σ' hl; (apply g_pick_f; rfl; (rfl); rfl)); refine wMv ?_; refine q_w (fun h h_k => ?_) (fun h h_k => ?_) <;> ((try subst h_k); (have hp := h; try simp only [q_n] at hp); (try (exfalso; first | omega | (cases hp; done))));
          refine vFa ?_; refine vLd ?_; refine vFa ?_; refine vLd ?_; apply wl_isW; rfl; (rfl); rfl; rfl; (intro σ' hl; (apply g_len; rfl; rfl; (exact (List.length_map _).symm))); refine vBi ?_; intro _ _; apply wl_is; rfl; rfl; rfl; (intro σ' hl; (apply g_pick_f; rfl; (rfl); rfl)); refine wMv ?_; refine q_w (fun h h_k => ?_) (fun h h_k => ?_) <;> ((try subst h_k); (have hp := h; try simp only [q_n] at hp); (try (exfalso; first | omega | (cases hp; done))));
          refine vFa ?_; refine vLd ?_; refine vBi ?_; intro _ _; refine vMv ?_; refine q_w (fun h h_k => ?_) (fun h h_k => ?_) <;> ((try subst h_k); (have hp := h; try simp only [q_n] at hp); (try (exfalso; first | omega | (cases hp; done))));
          refine vFa ?_; refine vLd ?_; apply wl_isW; rfl; (rfl); rfl; rfl; (intro σ' hl; (apply g_len; rfl; rfl; (exact (List.length_map _).symm))); refine vBi ?_; intro _ _; apply wl_isW; rfl; (rfl); rfl; rfl; (intro σ' hl; (apply g_pick_t; rfl; (rfl); rfl)); apply wl_is; rfl; rfl; rfl; (intro σ' hl; (apply g_pick_f; rfl; (rfl); rfl)); refine wl_nil ?_; show EX _ _ _ _ _; refine q_c (fun h h_k => ?_) (fun h h_k => ?_) <;> ((try subst h_k); (have hp := h; try simp only [q_n] at hp); (try (exfalso; first | omega | (cases hp; done))));
          refine zR ?_; refine zX (zZ ?_); refine xMv ?_; refine xFa ?_; refine xLd ?_; apply exl_do; rfl; rfl; (apply g_mapUpdate; rfl; rfl; rfl; rfl; (exact Upd.there (Upd.here)); (exact boolM_list _ _)); refine zY ?_; refine zX ?_; refine zX (zZ ?_); refine xFa ?_; refine xLd ?_; refine xBi ?_; intro _ _; refine zY ?_; refine q_c (fun h h_k => ?_) (fun h h_k => ?_) <;> ((try subst h_k); (have hp := h; try simp only [q_n] at hp); (try (exfalso; first | omega | (cases hp; done))));
          refine zR ?_; refine zX (zZ ?_); refine xFa ?_; refine xLd ?_; refine xLn ?_; refine xMv ?_; refine zY ?_; refine zL ?_; simp only [zP, zU, zT, zW, retA, ↓reduceIte, Nat.reduceEqDiff]; rotate_left
          (all_goals (repeat (rename BV _ _ => hbv; first | cases hbv | clear hbv)))
          all_goals (try (first | cases ‹true = false› | cases ‹false = true›))
          refine ex_loop (fun (u : Nat) => (⟨[(1, .int .u8 w), (2, .ptr b2 0), (5, .dl 4 (T.map tnC)), (7, .mp bv), (10, .mp bs), (11, .mp bt), (76, .dl 4 (T.map tnC)), (77, .int .i64 T.length), (78, .int .i64 (0 : Nat)), (144, ints []), (145, .int .i64 0), (146, .int .i64 0)], .imap bt (boolM (N.take 0 ++ [n]).contains) (if ((boolM (N.take 0).contains) n).isSome then 0 else 0 + 1) :: .imap bs (seenA (seqN l (N.take 0))) c :: [.obj bv (.map es clock), bkE b2 l], [], Tryz.f7.ntmps⟩ : St)) (fun u => True) (fun u => 0) 0 (trivial) (St.le_of (by repeat (first | exact trivial | refine ⟨rfl, ?_⟩)) (by repeat (first | exact q_r | apply q_q | apply q_k))) ?_
          intro u hI
          refine zX (zZ ?_); refine xBi ?_; intro _ _; refine zY ?_; refine zX ?_; refine q_c (fun h h_k => ?_) (fun h h_k => ?_) <;> ((try subst h_k); (have hp := h; try simp only [q_n] at hp); (try (exfalso; first | omega | (cases hp; done))));
          refine ex_exit ?_; refine zZ ?_; refine xAd ?_; refine xMv ?_; refine zN ?_; simp only [zP, zU, zT, zW, retA, ↓reduceIte, Nat.reduceEqDiff]; rotate_left
          (all_goals (repeat (rename BV _ _ => hbv; first | cases hbv | clear hbv)))
          all_goals (try (first | cases ‹true = false› | cases ‹false = true›))
          refine ⟨(0 + 1, c), hi, by dsimp only; omega, ?_⟩
          dsimp only
          rw [hsq, htk]
          rw [hcnt]
          exact q_le
        · obtain ⟨j, hj⟩ : ∃ j, i = j + 1 := ⟨i - 1, by omega⟩
          obtain ⟨m, hm1, hm2⟩ := hprev j hj
          have hz : (i : Int) - 1 = (j : Int) := by omega
          generalize turnS l m = y at hm1 hm2
          refine zX (zZ ?_); refine xBi ?_; intro _ _; refine zY ?_; refine zX ?_; refine q_c (fun h h_k => ?_) (fun h h_k => ?_) <;> ((try subst h_k); (have hp := h; try simp only [q_n] at hp); (try (exfalso; first | omega | (cases hp; done))));
          refine zR ?_; refine zX ?_; refine zL ?_; refine zX (zZ ?_); refine xMv ?_; refine xIx ?_; refine xLa ?_; refine xBa ?_; intro _; refine xAs ?_; refine xSt ?_; refine zY ?_; refine zX ?_; refine zX ?_; refine ex_drawP rfl rfl (by kernel_rfl) rfl ?_; refine ex_drawQ rfl (by kernel_rfl) rfl ?_; refine wMv ?_; refine wBi ?_; intro _ _; refine wMv ?_; refine q_w (fun h h_k => ?_) (fun h h_k => ?_) <;> ((try subst h_k); (have hp := h; try simp only [q_n] at hp); (try (exfalso; first | omega | (cases hp; done))));
          refine vMv ?_; refine vMv ?_; apply wl_isW; rfl; (rfl); rfl; rfl; (intro σ' hl; (apply g_sub; rfl; rfl; rfl; exact ⟨by omega, by omega⟩)); refine vIx ?_; refine vFa ?_; refine vLd ?_; refine vFa ?_; refine vLd ?_; refine vBi ?_; intro _ _; apply wl_is; rfl; rfl; rfl; (intro σ' hl; (apply g_pick_t; rfl; (rfl); rfl)); refine wMv ?_; refine q_w (fun h h_k => ?_) (fun h h_k => ?_) <;> ((try subst h_k); (have hp := h; try simp only [q_n] at hp); (try (exfalso; first | omega | (cases hp; done))));
          refine vFa ?_; refine vLd ?_; refine vBi ?_; intro _ _; apply wl_is; rfl; rfl; rfl; (intro σ' hl; (apply g_pick_f; rfl; (rfl); rfl)); refine wMv ?_; refine q_w (fun h h_k => ?_) (fun h h_k => ?_) <;> ((try subst h_k); (have hp := h; try simp only [q_n] at hp); (try (exfalso; first | omega | (cases hp; done))));
          refine vFa ?_; refine vLd ?_; refine vFa ?_; refine vLd ?_; apply wl_isW; rfl; (rfl); rfl; rfl; (intro σ' hl; (apply g_len; rfl; rfl; (exact (List.length_map _).symm))); refine vBi ?_; intro _ _; apply wl_is; rfl; rfl; rfl; (intro σ' hl; (apply g_pick_f; rfl; (rfl); rfl)); refine wMv ?_; refine q_w (fun h h_k => ?_) (fun h h_k => ?_) <;> ((try subst h_k); (have hp := h; try simp only [q_n] at hp); (try (exfalso; first | omega | (cases hp; done))));
          refine vFa ?_; refine vLd ?_; refine vBi ?_; intro _ _; refine vMv ?_; refine q_w (fun h h_k => ?_) (fun h h_k => ?_) <;> ((try subst h_k); (have hp := h; try simp only [q_n] at hp); (try (exfalso; first | omega | (cases hp; done))));
          refine vFa ?_; refine vLd ?_; apply wl_isW; rfl; (rfl); rfl; rfl; (intro σ' hl; (apply g_len; rfl; rfl; (exact (List.length_map _).symm))); refine vBi ?_; intro _ _; apply wl_isW; rfl; (rfl); rfl; rfl; (intro σ' hl; (apply g_pick_t; rfl; (rfl); rfl)); apply wl_is; rfl; rfl; rfl; (intro σ' hl; (apply g_pick_f; rfl; (rfl); rfl)); refine wl_nil ?_; show EX _ _ _ _ _; refine q_c (fun h h_k => ?_) (fun h h_k => ?_) <;> ((try subst h_k); (have hp := h; try simp only [q_n] at hp); (try (exfalso; first | omega | (cases hp; done))));
          refine zR ?_; refine zX (zZ ?_); refine xMv ?_; refine xFa ?_; refine xLd ?_; apply exl_do; rfl; rfl; (apply g_mapUpdate; rfl; rfl; rfl; rfl; (exact Upd.there (Upd.here)); (exact boolM_list _ _)); refine zY ?_; refine zX ?_; refine zX (zZ ?_); refine xFa ?_; refine xLd ?_; refine xBi ?_; intro _ _; refine zY ?_; refine q_c (fun h h_k => ?_) (fun h h_k => ?_) <;> ((try subst h_k); (have hp := h; try simp only [q_n] at hp); (try (exfalso; first | omega | (cases hp; done))));
          refine zR ?_; refine zX (zZ ?_); refine xFa ?_; refine xLd ?_; refine xLn ?_; refine xMv ?_; refine zY ?_; refine zL ?_; simp only [zP, zU, zT, zW, retA, ↓reduceIte, Nat.reduceEqDiff]; rotate_left
          (all_goals (repeat (rename BV _ _ => hbv; first | cases hbv | clear hbv)))
          all_goals (try (first | cases ‹true = false› | cases ‹false = true›))
          refine ex_loop (fun (u : Nat) => (⟨[(1, .int .u8 w), (2, .ptr b2 0), (5, .dl 4 (T.map tnC)), (7, .mp bv), (10, .mp bs), (11, .mp bt), (76, .dl 4 (T.map tnC)), (77, .int .i64 T.length), (78, .int .i64 i), (144, ints []), (145, .int .i64 0), (146, .int .i64 0)], .imap bt (boolM (N.take i ++ [n]).contains) (if ((boolM (N.take i).contains) n).isSome then i else i + 1) :: .imap bs (seenA (seqN l (N.take i))) c :: [.obj bv (.map es clock), bkE b2 l], [], Tryz.f7.ntmps⟩ : St)) (fun u => True) (fun u => 0) 0 (trivial) (St.le_of (by repeat (first | exact trivial | refine ⟨rfl, ?_⟩)) (by repeat (first | exact q_r | apply q_q | apply q_k))) ?_
          intro u hI
          refine zX (zZ ?_); refine xBi ?_; intro _ _; refine zY ?_; refine zX ?_; refine q_c (fun h h_k => ?_) (fun h h_k => ?_) <;> ((try subst h_k); (have hp := h; try simp only [q_n] at hp); (try (exfalso; first | omega | (cases hp; done))));
          refine ex_exit ?_; refine zZ ?_; refine xAd ?_; refine xMv ?_; refine zN ?_; simp only [zP, zU, zT, zW, retA, ↓reduceIte, Nat.reduceEqDiff]; rotate_left
          (all_goals (repeat (rename BV _ _ => hbv; first | cases hbv | clear hbv)))
          all_goals (try (first | cases ‹true = false› | cases ‹false = true›))
          refine ⟨(i + 1, c), hi, by dsimp only; omega, ?_⟩
          dsimp only
          rw [hsq, htk]
          rw [hcnt]
          exact q_le
    · have e : i = T.length := by omega
      subst e
      rw [show N.take T.length = N by rw [hTN, List.take_length]]
      have hup' := hup
      clear hI hi
      refine zX (zZ ?_); refine xBi ?_; intro _ _; refine zY ?_; refine zX ?_; refine q_c (fun h h_k => ?_) (fun h h_k => ?_) <;> ((try subst h_k); (have hp := h; try simp only [q_n] at hp); (try (exfalso; first | omega | (cases hp; done))));
      refine ex_exit ?_; refine zX (zZ ?_); refine exl_map rfl rfl rfl (by exact g_makeMap) ?_; intro _; refine xAs ?_; refine zY ?_; refine zX ?_; refine zX (zZ ?_); refine xFa ?_; refine xLd ?_; refine xLn ?_; refine xMv ?_; refine zY ?_; refine zL ?_; rotate_left
      (all_goals (repeat (rename BV _ _ => hbv; first | cases hbv | clear hbv)))
      all_goals (try (first | cases ‹true = false› | cases ‹false = true›))
      rename Nat => bc; revert bc
      intro bc
      refine ex_loop (fun (i : Nat) => (⟨[(1, .int .u8 w), (2, .ptr b2 0), (5, .dl 4 (T.map tnC)), (7, .mp bv), (10, .mp bs), (11, .mp bt), (20, .mp bc), (236, sls l), (237, .int .i64 l.length), (238, .int .i64 i)], .imap bc (boolM (numsE (entF l 0 (l.take i))).contains) (numsE (entF l 0 (l.take i))).length :: .imap bt (boolM N.contains) T.length :: .imap bs (seenA (seqN l N)) c :: [.obj bv (.map es clock), bkE b2 l], [], Tryz.f7.ntmps⟩ : St)) (fun i => i ≤ l.length) (fun i => l.length - i) 0 (Nat.zero_le _) (St.le_of (by repeat (first | exact trivial | refine ⟨rfl, ?_⟩)) (by repeat (first | exact q_r | apply q_q | apply q_k))) ?_
      intro i hI
      by_cases hi : i < l.length
      · obtain ⟨s, hs⟩ : ∃ s, l[i]? = some s := get_some hi
        have hg := sl_get hs
        have hsd := hsl s (List.mem_of_getElem? hs)
        have hsa := seen_all hbk hs
        rw [hN] at hsa
        have het := entF_take hs
        have hq1 := hsd.tab
        have hq2 := hsd.seq
        have hin : ∀ x ∈ [s.tab, s.seq], inR x := fun x hx => by
          simp only [List.mem_cons, List.not_mem_nil, or_false] at hx
          unfold inR
          rcases hx with rfl | rfl <;> omega
        by_cases hk3 : s.kind = 3
        · have hcf : cntB l s = false := by
            cases hc : cntB l s with
            | false => rfl
            | true => exact absurd hk3 (cnt_iff.1 hc).1
          rw [hcf] at hsa het
          rw [if_neg (by simp)] at hsa het
          have hso : seenA (seqN l N) (i : Int) = none := by unfold seenA; rw [hsa]; rfl
          clear hsd hsl hup hup' hsa hI
          refine zX (zZ ?_); refine xBi ?_; intro _ _; refine zY ?_; refine zX ?_; refine q_c (fun h h_k => ?_) (fun h h_k => ?_) <;> ((try subst h_k); (have hp := h; try simp only [q_n] at hp); (try (exfalso; first | omega | (cases hp; done))));
          refine zR ?_; refine zX ?_; refine zL ?_; refine zX (zZ ?_); refine xMv ?_; refine xIx ?_; refine xLa ?_; refine xBa ?_; intro _; refine xAs ?_; refine xSt ?_; refine zY ?_; refine zX ?_; refine zX (zZ ?_); refine xFa ?_; refine xLd ?_; refine xBi ?_; intro _ _; refine xMv ?_; refine q_d (fun h h_k => ?_) (fun h h_k => ?_) <;> ((try subst h_k); (have hp := h; try simp only [q_n] at hp); (try (exfalso; first | omega | (cases hp; done))));
          refine xSk ?_; refine xSk ?_; refine xSk ?_; refine xSk ?_; refine xSk ?_; refine xSk ?_; refine xSk ?_; refine xPt ?_; refine zY ?_; refine ex_cond_t rfl (by rfl) ?_; refine zX ?_; refine zX (zZ ?_); refine xMv ?_; refine xMv ?_; show EXL _ _ _ ({ dst := _, op := .lookup _ _ _ true, type := _, pos := _, after := _, guard := _ } :: _) _ _; refine zQ rfl rfl rfl (g_lookupOk (v := .int .i64 0) (ok := false) rfl rfl (by (repeat first | exact q_h | apply q_t | assumption); done) rfl rfl (by rw [hso]; rfl) (by rw [hso]; rfl)) ?_; refine xMv ?_; refine xEx ?_; refine xEx ?_; refine xAs ?_; refine xAs ?_; refine zY ?_; refine zX (zZ ?_); refine xMv ?_; refine zY ?_; refine ex_cond_f rfl (by rfl) ?_; refine zR ?_; refine ex_exit ?_; refine zZ ?_; refine xAd ?_; refine xMv ?_; refine zN ?_; simp only [zP, zU, zT, zW, retA, ↓reduceIte, Nat.reduceEqDiff]; rotate_left
          (all_goals (repeat (rename BV _ _ => hbv; first | cases hbv | clear hbv)))
          all_goals (try (first | cases ‹true = false› | cases ‹false = true›))
          refine ⟨i + 1, hi, by omega, ?_⟩
          rw [het]
          exact q_le
        · have hvc := void_cnt (l := l) hk3
          cases hc : cntB l s with
          | false =>
            rw [hc, Bool.not_false] at hvc
            rw [hc] at hsa het
            rw [if_neg (by simp)] at hsa het
            have hso : seenA (seqN l N) (i : Int) = none := by unfold seenA; rw [hsa]; rfl
            clear hsd hsl hup hup' hsa hI
            refine zX (zZ ?_); refine xBi ?_; intro _ _; refine zY ?_; refine zX ?_; refine q_c (fun h h_k => ?_) (fun h h_k => ?_) <;> ((try subst h_k); (have hp := h; try simp only [q_n] at hp); (try (exfalso; first | omega | (cases hp; done))));
            refine zR ?_; refine zX ?_; refine zL ?_; refine zX (zZ ?_); refine xMv ?_; refine xIx ?_; refine xLa ?_; refine xBa ?_; intro _; refine xAs ?_; refine xSt ?_; refine zY ?_; refine zX ?_; refine zX (zZ ?_); refine xFa ?_; refine xLd ?_; refine xBi ?_; intro _ _; refine xMv ?_; refine q_d (fun h h_k => ?_) (fun h h_k => ?_) <;> ((try subst h_k); (have hp := h; try simp only [q_n] at hp); (try (exfalso; first | omega | (cases hp; done))));
            refine yMv ?_; refine yFa ?_; refine yLd ?_; refine yFa ?_; refine yLd ?_; apply exl_isW; rfl; (rfl); rfl; rfl; (apply g_buildArr; rfl; rfl; rfl; rfl); apply exl_isW; rfl; (rfl); rfl; rfl; (refine g_lookupK (ns := [s.tab, s.seq]) rfl k2Law rfl rfl (by (repeat first | exact q_h | apply q_t | assumption); done) hV rfl rfl k2Key rfl hin hvc); refine xPf ?_; refine zY ?_; refine ex_cond_t rfl (by rfl) ?_; refine zX ?_; refine zX (zZ ?_); refine xMv ?_; refine xMv ?_; show EXL _ _ _ ({ dst := _, op := .lookup _ _ _ true, type := _, pos := _, after := _, guard := _ } :: _) _ _; refine zQ rfl rfl rfl (g_lookupOk (v := .int .i64 0) (ok := false) rfl rfl (by (repeat first | exact q_h | apply q_t | assumption); done) rfl rfl (by rw [hso]; rfl) (by rw [hso]; rfl)) ?_; refine xMv ?_; refine xEx ?_; refine xEx ?_; refine xAs ?_; refine xAs ?_; refine zY ?_; refine zX (zZ ?_); refine xMv ?_; refine zY ?_; refine ex_cond_f rfl (by rfl) ?_; refine zR ?_; refine ex_exit ?_; refine zZ ?_; refine xAd ?_; refine xMv ?_; refine zN ?_; simp only [zP, zU, zT, zW, retA, ↓reduceIte, Nat.reduceEqDiff]; rotate_left
            (all_goals (repeat (rename BV _ _ => hbv; first | cases hbv | clear hbv)))
            all_goals (try (first | cases ‹true = false› | cases ‹false = true›))
            refine ⟨i + 1, hi, by omega, ?_⟩
            rw [het]
            exact q_le
          | true =>
            rw [hc, Bool.not_true] at hvc
            rw [hc] at hsa het
            rw [if_pos rfl] at het
            have hb1 := boolM_sn (numsE (entF l 0 (l.take i))) s.turn
            have hb2 := ins_count (n := s.turn) (nums_up (entF l 0 (l.take i)))
            have hb3 := nums_snoc (entF l 0 (l.take i)) (i, s)
            rw [← het] at hb3
            dsimp only at hb3
            clear hsl hup hup' hI
            generalize numsE (entF l 0 (l.take i)) = NS at *
            by_cases hk1 : s.kind = 1
            · rw [if_pos ⟨rfl, hk1⟩] at hsa
              have hso : seenA (seqN l N) (i : Int) = some (.int .i64 s.turn) := by unfold seenA; rw [hsa]; rfl
              clear hsd hsa
              have hke : (s.kind == 1) = true := by simpa using hk1
              refine zX (zZ ?_); refine xBi ?_; intro _ _; refine zY ?_; refine zX ?_; refine q_c (fun h h_k => ?_) (fun h h_k => ?_) <;> ((try subst h_k); (have hp := h; try simp only [q_n] at hp); (try (exfalso; first | omega | (cases hp; done))));
              refine zR ?_; refine zX ?_; refine zL ?_; refine zX (zZ ?_); refine xMv ?_; refine xIx ?_; refine xLa ?_; refine xBa ?_; intro _; refine xAs ?_; refine xSt ?_; refine zY ?_; refine zX ?_; refine zX (zZ ?_); refine xFa ?_; refine xLd ?_; refine xBi ?_; intro _ _; refine xMv ?_; refine q_d (fun h h_k => ?_) (fun h h_k => ?_) <;> ((try subst h_k); (have hp := h; try simp only [q_n] at hp); (try (exfalso; first | omega | (cases hp; done))));
              refine yMv ?_; refine yFa ?_; refine yLd ?_; refine yFa ?_; refine yLd ?_; apply exl_isW; rfl; (rfl); rfl; rfl; (apply g_buildArr; rfl; rfl; rfl; rfl); apply exl_isW; rfl; (rfl); rfl; rfl; (refine g_lookupK (ns := [s.tab, s.seq]) rfl k2Law rfl rfl (by (repeat first | exact q_h | apply q_t | assumption); done) hV rfl rfl k2Key rfl hin hvc); refine xPf ?_; refine zY ?_; refine ex_cond_f rfl (by rfl) ?_; refine zR ?_; refine zX (zZ ?_); refine xMv ?_; refine xFa ?_; refine xLd ?_; apply exl_do; rfl; rfl; (apply g_mapUpdate; rfl; rfl; rfl; rfl; (exact Upd.there (Upd.here)); (exact boolM_list _ _)); refine zY ?_; refine zX (zZ ?_); refine xMv ?_; refine xMv ?_; show EXL _ _ _ ({ dst := _, op := .lookup _ _ _ true, type := _, pos := _, after := _, guard := _ } :: _) _ _; refine zQ rfl rfl rfl (g_lookupOk (v := .int .i64 s.turn) (ok := true) rfl rfl (by (repeat first | exact q_h | apply q_t | assumption); done) rfl rfl (by rw [hso]; rfl) (by rw [hso]; rfl)) ?_; refine xMv ?_; refine xEx ?_; refine xEx ?_; refine xAs ?_; refine xAs ?_; refine zY ?_; refine zX (zZ ?_); refine xMv ?_; refine xFa ?_; refine xLd ?_; refine xBi ?_; intro _ _; apply exl_isB; rfl; rfl; rfl; (apply g_neqBool; rfl; rfl; rfl); intro _ _; refine xMv ?_; refine q_d (fun h h_k => ?_) (fun h h_k => ?_) <;> ((try subst h_k); (have hp := h; try simp only [q_n] at hp); (try (exfalso; first | omega | (cases hp; done))));
              refine xSk ?_; refine xSk ?_; refine xSr ?_; refine xSr ?_; refine xSr ?_; refine xSr ?_; refine xSk ?_; refine xPt ?_; refine zY ?_; refine ex_cond_t rfl (by rfl) ?_; refine zX (zZ ?_); refine xAs ?_; refine zY ?_; refine zJ ?_; simp only [zP, zU, zT, zW, retA, ↓reduceIte, Nat.reduceEqDiff]; rotate_left; refine yMv ?_; refine yMv ?_; refine yMv ?_; refine yFa ?_; refine yLd ?_; refine yBi ?_; intro _ _; apply exl_isW; rfl; (rfl); rfl; rfl; (apply g_pick_t; rfl; (rfl); rfl); refine xPf ?_; refine zY ?_; refine q_c (fun h h_k => ?_) (fun h h_k => ?_) <;> ((try subst h_k); (have hp := h; try simp only [q_n] at hp); (try (exfalso; first | omega | (cases hp; done))));
              refine zR ?_; refine zZ ?_; refine xAd ?_; refine xMv ?_; refine zN ?_; simp only [zP, zU, zT, zW, retA, ↓reduceIte, Nat.reduceEqDiff]; rotate_left
              (all_goals (repeat (rename BV _ _ => hbv; first | cases hbv | clear hbv)))
              all_goals (try (first | cases ‹true = false› | cases ‹false = true›))
              · rw [hke] at hp; first | exact absurd rfl hp | exact absurd hp (by decide)
              · refine ⟨i + 1, hi, by omega, ?_⟩
                rw [hb3, hb1, ← hb2]
                exact q_le
            · rw [if_neg (fun h => hk1 h.2)] at hsa
              have hso : seenA (seqN l N) (i : Int) = none := by unfold seenA; rw [hsa]; rfl
              clear hsd hsa
              have hke : (s.kind == 1) = false := by simpa using hk1
              refine zX (zZ ?_); refine xBi ?_; intro _ _; refine zY ?_; refine zX ?_; refine q_c (fun h h_k => ?_) (fun h h_k => ?_) <;> ((try subst h_k); (have hp := h; try simp only [q_n] at hp); (try (exfalso; first | omega | (cases hp; done))));
              refine zR ?_; refine zX ?_; refine zL ?_; refine zX (zZ ?_); refine xMv ?_; refine xIx ?_; refine xLa ?_; refine xBa ?_; intro _; refine xAs ?_; refine xSt ?_; refine zY ?_; refine zX ?_; refine zX (zZ ?_); refine xFa ?_; refine xLd ?_; refine xBi ?_; intro _ _; refine xMv ?_; refine q_d (fun h h_k => ?_) (fun h h_k => ?_) <;> ((try subst h_k); (have hp := h; try simp only [q_n] at hp); (try (exfalso; first | omega | (cases hp; done))));
              refine yMv ?_; refine yFa ?_; refine yLd ?_; refine yFa ?_; refine yLd ?_; apply exl_isW; rfl; (rfl); rfl; rfl; (apply g_buildArr; rfl; rfl; rfl; rfl); apply exl_isW; rfl; (rfl); rfl; rfl; (refine g_lookupK (ns := [s.tab, s.seq]) rfl k2Law rfl rfl (by (repeat first | exact q_h | apply q_t | assumption); done) hV rfl rfl k2Key rfl hin hvc); refine xPf ?_; refine zY ?_; refine ex_cond_f rfl (by rfl) ?_; refine zR ?_; refine zX (zZ ?_); refine xMv ?_; refine xFa ?_; refine xLd ?_; apply exl_do; rfl; rfl; (apply g_mapUpdate; rfl; rfl; rfl; rfl; (exact Upd.there (Upd.here)); (exact boolM_list _ _)); refine zY ?_; refine zX (zZ ?_); refine xMv ?_; refine xMv ?_; show EXL _ _ _ ({ dst := _, op := .lookup _ _ _ true, type := _, pos := _, after := _, guard := _ } :: _) _ _; refine zQ rfl rfl rfl (g_lookupOk (v := .int .i64 0) (ok := false) rfl rfl (by (repeat first | exact q_h | apply q_t | assumption); done) rfl rfl (by rw [hso]; rfl) (by rw [hso]; rfl)) ?_; refine xMv ?_; refine xEx ?_; refine xEx ?_; refine xAs ?_; refine xAs ?_; refine zY ?_; refine zX (zZ ?_); refine xMv ?_; refine xFa ?_; refine xLd ?_; refine xBi ?_; intro _ _; apply exl_isB; rfl; rfl; rfl; (apply g_neqBool; rfl; rfl; rfl); intro _ _; refine xMv ?_; refine q_d (fun h h_k => ?_) (fun h h_k => ?_) <;> ((try subst h_k); (have hp := h; try simp only [q_n] at hp); (try (exfalso; first | omega | (cases hp; done))));
              refine xSk ?_; refine xSk ?_; refine xSr ?_; refine xSr ?_; refine xSr ?_; refine xSr ?_; refine xSk ?_; refine xPt ?_; refine zY ?_; refine ex_cond_t rfl (by rfl) ?_; refine zX (zZ ?_); refine xAs ?_; refine zY ?_; refine zJ ?_; simp only [zP, zU, zT, zW, retA, ↓reduceIte, Nat.reduceEqDiff]; rotate_left; refine yMv ?_; refine yMv ?_; refine xSk ?_; refine xSk ?_; refine xSk ?_; refine xSk ?_; apply exl_isW; rfl; (rfl); rfl; rfl; (apply g_pick_f; rfl; (rfl); rfl); refine xPf ?_; refine zY ?_; refine ex_cond_f rfl (by rfl) ?_; refine zR ?_; refine zZ ?_; refine xAd ?_; refine xMv ?_; refine zN ?_; simp only [zP, zU, zT, zW, retA, ↓reduceIte, Nat.reduceEqDiff]; rotate_left
              (all_goals (repeat (rename BV _ _ => hbv; first | cases hbv | clear hbv)))
              all_goals (try (first | cases ‹true = false› | cases ‹false = true›))
              · rw [hke] at hp; first | exact absurd rfl hp | exact absurd hp (by decide)
              · refine ⟨i + 1, hi, by omega, ?_⟩
                rw [hb3, hb1, ← hb2]
                exact q_le
      · have e : i = l.length := by omega
        subst e
        rw [show numsE (entF l 0 (l.take l.length)) = N by rw [List.take_length]; exact hN]
        clear hI hi hup' hV
        refine zX (zZ ?_); refine xBi ?_; intro _ _; refine zY ?_; refine zX ?_; refine q_c (fun h h_k => ?_) (fun h h_k => ?_) <;> ((try subst h_k); (have hp := h; try simp only [q_n] at hp); (try (exfalso; first | omega | (cases hp; done))));
        refine ex_exit ?_; refine zX ?_; refine zX (zZ ?_); refine xMv ?_; apply zQ; rfl; rfl; rfl; (apply g_lenMap; rfl; rfl; exact (by (repeat first | exact q_h | apply q_t | assumption); done)); refine xMv ?_; apply zQ; rfl; rfl; rfl; (apply g_lenMap; rfl; rfl; exact (by (repeat first | exact q_h | apply q_t | assumption); done)); refine xBi ?_; intro _ _; refine zY ?_; refine q_c (fun h h_k => ?_) (fun h h_k => ?_) <;> ((try subst h_k); (have hp := h; try simp only [q_n] at hp); (try (exfalso; first | omega | (cases hp; done))));
        refine zR ?_; refine zX ?_; refine zX (zZ ?_); refine xMv ?_; show EXL _ _ _ ({ dst := _, op := .range _ _, type := _, pos := _, after := _, guard := _ } :: _) _ _; refine exl_call rfl rfl rfl (g_rangeSet rfl rfl (by intro e; exact (by (exact Upd.here)))) ?_; rintro _ _ ⟨rb, es2, clock2, hE⟩; refine zY ?_; refine zL ?_; rotate_left
        (all_goals (repeat (rename BV _ _ => hbv; first | cases hbv | clear hbv)))
        all_goals (try (first | cases ‹true = false› | cases ‹false = true›))
        have hel := entL_len l
        refine ex_loop (fun (z : Array Nat) => (⟨[(1, .int .u8 w), (2, .ptr b2 0), (5, .dl 4 (T.map tnC)), (11, .mp bt), (292, .ptr rb 0)], .obj rb (.mapIter (some bc) clock2 z clock2) :: .obj bc (.map es2 clock2) :: .imap bt (boolM N.contains) T.length :: [bkE b2 l], [], Tryz.f7.ntmps⟩ : St)) (fun z => True) (fun z => (leftOf es2 z).size) #[] (trivial) (St.le_of (by repeat (first | exact trivial | refine ⟨rfl, ?_⟩)) (by repeat (first | exact q_r | apply q_q | apply q_k))) ?_
        intro z hI
        refine zX (zZ ?_); show EXL _ _ _ ({ dst := _, op := .next _ _, type := _, pos := _, after := _, guard := _ } :: _) _ _; refine exl_call rfl rfl rfl (g_nextSet hE rfl (by (repeat first | exact q_h | apply q_t | assumption); done) (by intro s; exact Upd.here)) ?_; rintro _ _ (hd | ⟨e, k, he, hk, hv, h0, hn, hpp, hm⟩); refine xEx ?_; refine zY ?_; refine zX ?_; refine ex_cond_f rfl (by rfl) ?_; refine ex_exit ?_; refine zX ?_; refine zX (zZ ?_); refine xFa ?_; refine xLd ?_; refine xLn ?_; refine xBi ?_; intro _ _; refine zY ?_; refine q_c (fun h h_k => ?_) (fun h h_k => ?_) <;> ((try subst h_k); (have hp := h; try simp only [q_n] at hp); (try (exfalso; first | omega | (cases hp; done))));
        refine zX (zZ ?_); refine xAs ?_; refine zY ?_; refine zJ ?_; simp only [zP, zU, zT, zW, retA, ↓reduceIte, Nat.reduceEqDiff]; rotate_left; refine zR ?_; refine zX ?_; rotate_left; refine xEx ?_; refine zY ?_; refine zX ?_; refine ex_cond_t rfl (by rfl) ?_; refine zR ?_; refine zL ?_; refine zX (zZ ?_); show EXL _ _ _ ({ dst := _, op := .entry _, type := _, pos := _, after := _, guard := _ } :: _) _ _; apply zQ; rfl; rfl; rfl; exact g_entrySet hE he hk hv rfl (by (repeat first | exact q_h | apply q_t | assumption); done) (by (repeat first | exact q_h | apply q_t | assumption); done); refine xEx ?_; refine xAs ?_; refine zY ?_; refine zX (zZ ?_); refine xMv ?_; refine xMv ?_; apply exl_isB; rfl; rfl; rfl; (apply g_lookup; rfl; rfl; exact (by (repeat first | exact q_h | apply q_t | assumption); done); rfl; rfl; exact boolM_getD _ _); intro _ _; refine xNo ?_; intro _ _; refine zY ?_; refine q_c (fun h h_k => ?_) (fun h h_k => ?_) <;> ((try subst h_k); (have hp := h; try simp only [q_n] at hp); (try (exfalso; first | omega | (cases hp; done))));
        refine zX (zZ ?_); refine xAs ?_; refine zY ?_; refine zJ ?_; simp only [zP, zU, zT, zW, retA, ↓reduceIte, Nat.reduceEqDiff]; rotate_left; refine zR ?_; simp only [zP, zU, zT, zW, retA, ↓reduceIte, Nat.reduceEqDiff]; rotate_left
        (all_goals (repeat (rename BV _ _ => hbv; first | cases hbv | clear hbv)))
        all_goals (try (first | cases ‹true = false› | cases ‹false = true›))
        · refine q_ri ?_
          rfl
        · clear hd hE
          have hll : 0 < l.length := by omega
          obtain ⟨j, hj⟩ : ∃ j, w % l.length = j := ⟨_, rfl⟩
          have hjl : j < l.length := by rw [← hj]; exact Nat.mod_lt _ hll
          have hz : (w : Int) % (l.length : Int) = (j : Int) := by rw [← hj]; omega
          obtain ⟨s, hs⟩ : ∃ s, l[j]? = some s := get_some hjl
          have hg := sl_get hs
          clear hj hsl hup
          refine ex_weaken (s' := ⟨[(1, .int .u8 w), (2, .ptr b2 0), (5, .dl 4 (T.map tnC))], [bkE b2 l], [], Tryz.f7.ntmps⟩) (St.le_of (by repeat (first | exact trivial | refine ⟨rfl, ?_⟩)) (by repeat (first | exact q_r | apply q_q | apply q_k))) ?_
          refine ex_drfT (fun x => x = bkE b2 l) [10] 11 rfl (by kernel_rfl) rfl ?_
          obtain ⟨s1, hs1⟩ : ∃ s1 : Sl, { s with kind := 2, turn := 1 + (w : Int), lit := 0, off := 0 } = s1 := ⟨_, rfl⟩
          have c1 := fun σ => write_c l s1 σ
          obtain ⟨ws, hws⟩ : ∃ ws, writeS l s1 = ws := ⟨_, rfl⟩
          rw [hws] at c1
          obtain ⟨m, e1⟩ := ws
          have c2 := fun σ => scall_or' (turns_c m σ)
          obtain ⟨tr, htr⟩ : ∃ tr, turnsS m = tr := ⟨_, rfl⟩
          rw [htr] at c2
          obtain ⟨U, e2⟩ := tr
          dsimp only at c1 c2
          by_cases hok : e1 = 0 ∧ e2 = 0
          case neg =>
            clear htr hws hll
            rw [← hs1] at c1
            refine dVl ?_; refine dFa ?_; refine dVl ?_; refine dLd ?_; refine dVl ?_; refine dMv ?_; refine dVl ?_; apply drv_is; rfl; rfl; (intro σ' hl; (apply g_conv64; rfl; rfl; rfl; exact ⟨by omega, by omega⟩)); refine dVl ?_; refine dFa ?_; refine dVl ?_; refine dLd ?_; refine dVl ?_; apply drv_is; rfl; rfl; (intro σ' hl; (apply g_len; rfl; rfl; (exact (List.length_map _).symm))); refine dVl ?_; apply drv_is; rfl; rfl; (intro σ' hl; (apply g_remN; rfl; rfl; (rfl); (rfl); omega)); refine dVl ?_; apply drv_is; rfl; rfl; (intro σ' hl; (apply g_indexDl; rfl; rfl; rfl; (assumption); (assumption))); refine dVl ?_; refine dLa ?_; refine drf_one rfl rfl ?_; refine drs_box rfl rfl (g_alloc rfl) ?_; intro _; refine drf_nil rfl ?_; refine xSt ?_; refine zY ?_; refine zX (zZ ?_); refine xMv ?_; apply zQ; rfl; rfl; rfl; (apply g_conv64; rfl; rfl; rfl; exact ⟨by omega, by omega⟩); refine xAd ?_; refine xFa ?_; refine xSt ?_; refine xFa ?_; refine xSt ?_; refine xFa ?_; refine xSt ?_; refine xFa ?_; refine xSt ?_; refine zY ?_; refine zX (zZ ?_); refine xLa ?_; refine xLa ?_; apply zQ; rfl; rfl; rfl; (refine zK rfl rfl (zV (by kernel_rfl)) ?_; exact c1 _); refine xMv ?_; refine xEx ?_; refine xEx ?_; refine xBa ?_; intro _; refine xSt ?_; refine xAs ?_; refine zY ?_; refine zX (zZ ?_); refine xLa ?_; apply zQ; rfl; rfl; rfl; (refine zK rfl rfl (zV (by kernel_rfl)) ?_; exact c2 _); refine xMv ?_; refine xEx ?_; refine xEx ?_; refine xAs ?_; refine xAs ?_; refine zY ?_; refine zX ?_; refine zX (zZ ?_); refine xMv ?_; refine xBi ?_; intro _ _; refine xMv ?_; refine q_d (fun h h_k => ?_) (fun h h_k => ?_) <;> ((try subst h_k); (have hp := h; try simp only [q_n] at hp); (try (exfalso; first | omega | (cases hp; done))));
            refine xSk ?_; refine xSk ?_; refine xPt ?_; refine zY ?_; refine ex_cond_t rfl (by rfl) ?_; refine zX (zZ ?_); refine xAs ?_; refine zY ?_; refine zJ ?_; simp only [zP, zU, zT, zW, retA, ↓reduceIte, Nat.reduceEqDiff]; rotate_left; refine yMv ?_; refine yBi ?_; intro _ _; refine xPf ?_; refine zY ?_; refine q_c (fun h h_k => ?_) (fun h h_k => ?_) <;> ((try subst h_k); (have hp := h; try simp only [q_n] at hp); (try (exfalso; first | omega | (cases hp; done))));
            refine zX (zZ ?_); refine xAs ?_; refine zY ?_; refine zJ ?_; simp only [zP, zU, zT, zW, retA, ↓reduceIte, Nat.reduceEqDiff]; rotate_left
            (all_goals (repeat (rename BV _ _ => hbv; first | cases hbv | clear hbv)))
            all_goals (try (first | cases ‹true = false› | cases ‹false = true›))
            all_goals
              refine q_ri ?_
              rfl
          obtain ⟨rfl, rfl⟩ := hok
          have hmc : checkS m = 0 := by
            by_cases h : checkS m = 0
            · exact h
            · unfold turnsS at htr
              rw [if_pos h] at htr
              exact (Prod.mk.inj htr).2
          have hU : U = (numsE (entL m)).map (turnS m) := by
            unfold turnsS at htr
            rw [if_neg (by rw [hmc]; simp)] at htr
            exact (Prod.mk.inj htr).1.symm
          have hfp : ∀ n ∈ N, n ≠ 1 + (w : Int) → n ∈ numsE (entL m) ∧ (turnS m n).farm = (turnS l n).farm := fun n hn hne => by
            rw [← hN] at hn
            unfold writeS at hws
            rw [if_neg (by rw [h0]; simp)] at hws
            split at hws
            · cases (Prod.mk.inj hws).2
            · split at hws
              · have e := (Prod.mk.inj hws).1
                subst e
                refine farm_put hbk (check_book hmc) ?_ ?_ hn
                · rw [← hs1]; simp
                · rw [← hs1]; exact fun h => hne h.symm
              · cases (Prod.mk.inj hws).2
          have hup2 := nums_up (entL m)
          have hml : (numsE (entL m)).length ≤ 512 := Nat.le_trans (nums_len _) (Nat.le_trans (entL_len m) (check_zero.1 hmc).1)
          obtain ⟨M, hM⟩ : ∃ M, numsE (entL m) = M := ⟨_, rfl⟩
          rw [hM] at hU
          subst hU
          clear htr hws hll
          rw [← hs1] at c1
          rw [hM] at hfp hup2 hml
          clear hup2
          refine dVl ?_; refine dFa ?_; refine dVl ?_; refine dLd ?_; refine dVl ?_; refine dMv ?_; refine dVl ?_; apply drv_is; rfl; rfl; (intro σ' hl; (apply g_conv64; rfl; rfl; rfl; exact ⟨by omega, by omega⟩)); refine dVl ?_; refine dFa ?_; refine dVl ?_; refine dLd ?_; refine dVl ?_; apply drv_is; rfl; rfl; (intro σ' hl; (apply g_len; rfl; rfl; (exact (List.length_map _).symm))); refine dVl ?_; apply drv_is; rfl; rfl; (intro σ' hl; (apply g_remN; rfl; rfl; (rfl); (rfl); omega)); refine dVl ?_; apply drv_is; rfl; rfl; (intro σ' hl; (apply g_indexDl; rfl; rfl; rfl; (assumption); (assumption))); refine dVl ?_; refine dLa ?_; refine drf_one rfl rfl ?_; refine drs_box rfl rfl (g_alloc rfl) ?_; intro _; refine drf_nil rfl ?_; refine xSt ?_; refine zY ?_; refine zX (zZ ?_); refine xMv ?_; apply zQ; rfl; rfl; rfl; (apply g_conv64; rfl; rfl; rfl; exact ⟨by omega, by omega⟩); refine xAd ?_; refine xFa ?_; refine xSt ?_; refine xFa ?_; refine xSt ?_; refine xFa ?_; refine xSt ?_; refine xFa ?_; refine xSt ?_; refine zY ?_; refine zX (zZ ?_); refine xLa ?_; refine xLa ?_; apply zQ; rfl; rfl; rfl; (refine zK rfl rfl (zV (by kernel_rfl)) ?_; exact c1 _); refine xMv ?_; refine xEx ?_; refine xEx ?_; refine xBa ?_; intro _; refine xSt ?_; refine xAs ?_; refine zY ?_; refine zX (zZ ?_); refine xLa ?_; apply zQ; rfl; rfl; rfl; (refine zK rfl rfl (zV (by kernel_rfl)) ?_; exact c2 _); refine xMv ?_; refine xEx ?_; refine xEx ?_; refine xAs ?_; refine xAs ?_; refine zY ?_; refine zX ?_; refine zX (zZ ?_); refine xMv ?_; refine xBi ?_; intro _ _; refine xMv ?_; refine q_d (fun h h_k => ?_) (fun h h_k => ?_) <;> ((try subst h_k); (have hp := h; try simp only [q_n] at hp); (try (exfalso; first | omega | (cases hp; done))));
          refine yMv ?_; refine yBi ?_; intro _ _; refine xPf ?_; refine zY ?_; refine q_c (fun h h_k => ?_) (fun h h_k => ?_) <;> ((try subst h_k); (have hp := h; try simp only [q_n] at hp); (try (exfalso; first | omega | (cases hp; done))));
          refine zR ?_; refine zX (zZ ?_); refine exl_map rfl rfl rfl (by exact g_makeMap) ?_; intro _; refine xAs ?_; refine zY ?_; refine zX ?_; refine zX (zZ ?_); refine xMv ?_; refine xLn ?_; refine xMv ?_; refine zY ?_; refine zL ?_; rotate_left
          (all_goals (repeat (rename BV _ _ => hbv; first | cases hbv | clear hbv)))
          all_goals (try (first | cases ‹true = false› | cases ‹false = true›))
          rename Nat => bf; revert bf; rename Nat => b29; revert b29; rename Nat => b28; revert b28
          intro b28 b29 bf
          clear c1 c2
          refine ex_loop (fun (z : Nat × Nat) => (⟨[(5, .dl 4 (T.map tnC)), (28, .ptr b28 0), (33, .mp bf), (340, .dl 4 ((M.map (turnS m)).map tnC)), (341, .int .i64 (M.map (turnS m)).length), (342, .int .i64 z.1)], .imap bf (farmA m (M.take z.1)) z.2 :: [.cells b28 [.int .i64 s.tab, .int .i64 s.seq, .int .i64 2, .int .i64 (1 + (w : Int)), .int .i64 s.farm, .int .i64 s.hour, .int .i64 0, .int .i64 0] 43], [], Tryz.f7.ntmps⟩ : St)) (fun z => z.1 ≤ M.length) (fun z => M.length - z.1) (0, 0) (Nat.zero_le _) (St.le_of (by repeat (first | exact trivial | refine ⟨rfl, ?_⟩)) (by repeat (first | exact q_r | apply q_q | apply q_k))) ?_
          intro z hI
          obtain ⟨i, c3⟩ := z
          dsimp only at hI ⊢
          have hML : (M.map (turnS m)).length = M.length := List.length_map _
          by_cases hi : i < M.length
          · obtain ⟨n, hn⟩ : ∃ n, M[i]? = some n := get_some hi
            obtain ⟨y, hy⟩ : ∃ y, turnS m n = y := ⟨_, rfl⟩
            have hgy : ((M.map (turnS m)).map tnC)[i]? = some (tnC y) := tnC_get (by rw [List.getElem?_map, hn, ← hy]; rfl)
            have hyt : y.turn = n := by rw [← hy]; exact turn_no m n
            have hfa := farmA_upd m (M.take i) n
            rw [hy, ← show M.take (i + 1) = M.take i ++ [n] by rw [List.take_add_one, hn]; rfl, ← hyt] at hfa
            clear hfp
            refine zX (zZ ?_); refine xBi ?_; intro _ _; refine zY ?_; refine zX ?_; refine q_c (fun h h_k => ?_) (fun h h_k => ?_) <;> ((try subst h_k); (have hp := h; try simp only [q_n] at hp); (try (exfalso; first | omega | (cases hp; done))));
            refine zR ?_; refine zX ?_; refine zL ?_; refine zX (zZ ?_); refine xIx ?_; refine xLa ?_; refine xBa ?_; intro _; refine xSt ?_; refine zY ?_; refine zZ ?_; refine xMv ?_; refine xFa ?_; refine xLd ?_; refine xFa ?_; refine xLd ?_; apply exl_do; rfl; rfl; (apply g_mapUpdate; rfl; rfl; rfl; rfl; (exact Upd.there (Upd.here)); (rfl)); refine zN ?_; refine zZ ?_; refine xAd ?_; refine xMv ?_; refine zN ?_; simp only [zP, zU, zT, zW, retA, ↓reduceIte, Nat.reduceEqDiff]; rotate_left
            (all_goals (repeat (rename BV _ _ => hbv; first | cases hbv | clear hbv)))
            all_goals (try (first | cases ‹true = false› | cases ‹false = true›))
            refine ⟨(i + 1, if ((farmA m (M.take i)) y.turn).isSome then c3 else c3 + 1), hi, by dsimp only; omega, ?_⟩
            dsimp only
            rw [← hfa]
            exact q_le
          · have e : i = M.length := by omega
            subst e
            rw [List.take_length]
            clear hI hi
            refine zX (zZ ?_); refine xBi ?_; intro _ _; refine zY ?_; refine zX ?_; refine q_c (fun h h_k => ?_) (fun h h_k => ?_) <;> ((try subst h_k); (have hp := h; try simp only [q_n] at hp); (try (exfalso; first | omega | (cases hp; done))));
            refine ex_exit ?_; refine zX ?_; refine zX (zZ ?_); refine xMv ?_; refine xLn ?_; refine xMv ?_; refine zY ?_; refine zL ?_; rotate_left
            (all_goals (repeat (rename BV _ _ => hbv; first | cases hbv | clear hbv)))
            all_goals (try (first | cases ‹true = false› | cases ‹false = true›))
            refine ex_loop (fun (i : Nat) => (⟨[(28, .ptr b28 0), (33, .mp bf), (352, .dl 4 (T.map tnC)), (353, .int .i64 T.length), (354, .int .i64 i)], .imap bf (farmA m M) c3 :: [.cells b28 [.int .i64 s.tab, .int .i64 s.seq, .int .i64 2, .int .i64 (1 + (w : Int)), .int .i64 s.farm, .int .i64 s.hour, .int .i64 0, .int .i64 0] 43], [], Tryz.f7.ntmps⟩ : St)) (fun i => i ≤ T.length) (fun i => T.length - i) 0 (Nat.zero_le _) (St.le_of (by repeat (first | exact trivial | refine ⟨rfl, ?_⟩)) (by repeat (first | exact q_r | apply q_q | apply q_k))) ?_
            intro i hI
            by_cases hi : i < T.length
            · obtain ⟨n, hn⟩ : ∃ n, N[i]? = some n := get_some (by omega)
              have hnm := List.mem_of_getElem? hn
              obtain ⟨y, hy⟩ : ∃ y, turnS l n = y := ⟨_, rfl⟩
              have hgy : (T.map tnC)[i]? = some (tnC y) := tnC_get (by rw [← hT, List.getElem?_map, hn, ← hy]; rfl)
              have hyt : y.turn = n := by rw [← hy]; exact turn_no l n
              have hfn := hfp n hnm
              rw [hy] at hfn
              clear hfp
              by_cases hnw : n = 1 + (w : Int)
              · have hyw : y.turn = 1 + (w : Int) := by omega
                by_cases hnM : n ∈ M
                · have hso : farmA m M y.turn = some (.int .i64 (turnS m n).farm) := by rw [hyt]; unfold farmA; rw [if_pos hnM]
                  generalize (turnS m n).farm = fv at hso
                  clear hfn
                  refine zX (zZ ?_); refine xBi ?_; intro _ _; refine zY ?_; refine zX ?_; refine q_c (fun h h_k => ?_) (fun h h_k => ?_) <;> ((try subst h_k); (have hp := h; try simp only [q_n] at hp); (try (exfalso; first | omega | (cases hp; done))));
                  refine zR ?_; refine zX ?_; refine zL ?_; refine zX (zZ ?_); refine xIx ?_; refine xLa ?_; refine xBa ?_; intro _; refine xSt ?_; refine zY ?_; refine zX (zZ ?_); refine xMv ?_; refine xFa ?_; refine xLd ?_; show EXL _ _ _ ({ dst := _, op := .lookup _ _ _ true, type := _, pos := _, after := _, guard := _ } :: _) _ _; refine zQ rfl rfl rfl (g_lookupOk (v := .int .i64 fv) (ok := true) rfl rfl (by (repeat first | exact q_h | apply q_t | assumption); done) rfl rfl (by rw [hso]; rfl) (by rw [hso]; rfl)) ?_; refine xMv ?_; refine xEx ?_; refine xEx ?_; refine xAs ?_; refine xAs ?_; refine zY ?_; refine zX (zZ ?_); refine xFa ?_; refine xLd ?_; refine xFa ?_; refine xLd ?_; refine xBi ?_; intro _ _; refine xMv ?_; refine q_d (fun h h_k => ?_) (fun h h_k => ?_) <;> ((try subst h_k); (have hp := h; try simp only [q_n] at hp); (try (exfalso; first | omega | (cases hp; done))));
                  refine xSk ?_; refine xSk ?_; refine xSk ?_; refine xSr ?_; refine xSr ?_; refine xSr ?_; refine xSr ?_; refine xSk ?_; refine xPf ?_; refine zY ?_; refine ex_cond_f rfl (by rfl) ?_; refine zR ?_; refine zZ ?_; refine xAd ?_; refine xMv ?_; refine zN ?_; simp only [zP, zU, zT, zW, retA, ↓reduceIte, Nat.reduceEqDiff]; rotate_left
                  (all_goals (repeat (rename BV _ _ => hbv; first | cases hbv | clear hbv)))
                  all_goals (try (first | cases ‹true = false› | cases ‹false = true›))
                  refine ⟨i + 1, hi, by omega, ?_⟩
                  exact q_le
                · have hso : farmA m M y.turn = none := by rw [hyt]; unfold farmA; rw [if_neg hnM]
                  clear hfn
                  refine zX (zZ ?_); refine xBi ?_; intro _ _; refine zY ?_; refine zX ?_; refine q_c (fun h h_k => ?_) (fun h h_k => ?_) <;> ((try subst h_k); (have hp := h; try simp only [q_n] at hp); (try (exfalso; first | omega | (cases hp; done))));
                  refine zR ?_; refine zX ?_; refine zL ?_; refine zX (zZ ?_); refine xIx ?_; refine xLa ?_; refine xBa ?_; intro _; refine xSt ?_; refine zY ?_; refine zX (zZ ?_); refine xMv ?_; refine xFa ?_; refine xLd ?_; show EXL _ _ _ ({ dst := _, op := .lookup _ _ _ true, type := _, pos := _, after := _, guard := _ } :: _) _ _; refine zQ rfl rfl rfl (g_lookupOk (v := .int .i64 0) (ok := false) rfl rfl (by (repeat first | exact q_h | apply q_t | assumption); done) rfl rfl (by rw [hso]; rfl) (by rw [hso]; rfl)) ?_; refine xMv ?_; refine xEx ?_; refine xEx ?_; refine xAs ?_; refine xAs ?_; refine zY ?_; refine zX (zZ ?_); refine xFa ?_; refine xLd ?_; refine xFa ?_; refine xLd ?_; refine xBi ?_; intro _ _; refine xMv ?_; refine q_d (fun h h_k => ?_) (fun h h_k => ?_) <;> ((try subst h_k); (have hp := h; try simp only [q_n] at hp); (try (exfalso; first | omega | (cases hp; done))));
                  refine xSk ?_; refine xSk ?_; refine xSk ?_; refine xSr ?_; refine xSr ?_; refine xSr ?_; refine xSr ?_; refine xSk ?_; refine xPf ?_; refine zY ?_; refine ex_cond_f rfl (by rfl) ?_; refine zR ?_; refine zZ ?_; refine xAd ?_; refine xMv ?_; refine zN ?_; simp only [zP, zU, zT, zW, retA, ↓reduceIte, Nat.reduceEqDiff]; rotate_left
                  (all_goals (repeat (rename BV _ _ => hbv; first | cases hbv | clear hbv)))
                  all_goals (try (first | cases ‹true = false› | cases ‹false = true›))
                  refine ⟨i + 1, hi, by omega, ?_⟩
                  exact q_le
              · obtain ⟨hnM, hff⟩ := hfn hnw
                have hso : farmA m M y.turn = some (.int .i64 y.farm) := by rw [hyt]; unfold farmA; rw [if_pos hnM, hff]
                clear hff
                refine zX (zZ ?_); refine xBi ?_; intro _ _; refine zY ?_; refine zX ?_; refine q_c (fun h h_k => ?_) (fun h h_k => ?_) <;> ((try subst h_k); (have hp := h; try simp only [q_n] at hp); (try (exfalso; first | omega | (cases hp; done))));
                refine zR ?_; refine zX ?_; refine zL ?_; refine zX (zZ ?_); refine xIx ?_; refine xLa ?_; refine xBa ?_; intro _; refine xSt ?_; refine zY ?_; refine zX (zZ ?_); refine xMv ?_; refine xFa ?_; refine xLd ?_; show EXL _ _ _ ({ dst := _, op := .lookup _ _ _ true, type := _, pos := _, after := _, guard := _ } :: _) _ _; refine zQ rfl rfl rfl (g_lookupOk (v := .int .i64 y.farm) (ok := true) rfl rfl (by (repeat first | exact q_h | apply q_t | assumption); done) rfl rfl (by rw [hso]; rfl) (by rw [hso]; rfl)) ?_; refine xMv ?_; refine xEx ?_; refine xEx ?_; refine xAs ?_; refine xAs ?_; refine zY ?_; refine zX (zZ ?_); refine xFa ?_; refine xLd ?_; refine xFa ?_; refine xLd ?_; refine xBi ?_; intro _ _; refine xMv ?_; refine q_d (fun h h_k => ?_) (fun h h_k => ?_) <;> ((try subst h_k); (have hp := h; try simp only [q_n] at hp); (try (exfalso; first | omega | (cases hp; done))));
                refine yMv ?_; refine yNo ?_; intro _ _; refine yMv ?_; refine q_d (fun h h_k => ?_) (fun h h_k => ?_) <;> ((try subst h_k); (have hp := h; try simp only [q_n] at hp); (try (exfalso; first | omega | (cases hp; done))));
                refine yMv ?_; refine yFa ?_; refine yLd ?_; refine yBi ?_; intro _ _; apply exl_isW; rfl; (rfl); rfl; rfl; (apply g_pick_f; rfl; (rfl); rfl); refine xPt ?_; refine zY ?_; refine q_c (fun h h_k => ?_) (fun h h_k => ?_) <;> ((try subst h_k); (have hp := h; try simp only [q_n] at hp); (try (exfalso; first | omega | (cases hp; done))));
                refine zR ?_; refine zZ ?_; refine xAd ?_; refine xMv ?_; refine zN ?_; simp only [zP, zU, zT, zW, retA, ↓reduceIte, Nat.reduceEqDiff]; rotate_left
                (all_goals (repeat (rename BV _ _ => hbv; first | cases hbv | clear hbv)))
                all_goals (try (first | cases ‹true = false› | cases ‹false = true›))
                refine ⟨i + 1, hi, by omega, ?_⟩
                exact q_le
            · refine zX (zZ ?_); refine xBi ?_; intro _ _; refine zY ?_; refine zX ?_; refine q_c (fun h h_k => ?_) (fun h h_k => ?_) <;> ((try subst h_k); (have hp := h; try simp only [q_n] at hp); (try (exfalso; first | omega | (cases hp; done))));
              refine ex_exit ?_; refine zX (zZ ?_); refine xAs ?_; refine zY ?_; refine zJ ?_; simp only [zP, zU, zT, zW, retA, ↓reduceIte, Nat.reduceEqDiff]; rotate_left
              (all_goals (repeat (rename BV _ _ => hbv; first | cases hbv | clear hbv)))
              all_goals (try (first | cases ‹true = false› | cases ‹false = true›))
              refine q_ri ?_
              rfl
        · exfalso
          rw [h0] at h
          cases h
        · refine ⟨z.push e.born, trivial, hm, ?_⟩
          exact q_le
end Go.Proofs.YtkhoengjdfmfaaaGreat
