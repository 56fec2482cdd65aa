/- Bounds, Totals. -/
import Derived.Test.YtimeggaignfhgaaEf
namespace Go.Proofs.Ytimeggaignfhgaa
set_option linter.unusedSimpArgs false
set_option linter.unusedVariables false

def val1 (x : En) (k i : Nat) : Int := (x.members[i]?.bind (·[k]?)).getD 0
def val2 (x : En) (k i : Nat) : Int := (x.members[i]?.map fun m => (m.take (k + 1)).sum).getD 0
def bothE (x : En) (low high : Int) (val : En → Nat → Nat → Int) : List Rg × Int := if badC x low high = 0 then (rgV (val x) x.members.length low.toNat high.toNat (hd x.members).length, 0) else ([], badC x low high)
abbrev bothC (r : List Rg × Int) : AV := .tup [rgs r.1, .int .i64 r.2]
abbrev i64 (n : Int) : Prop := -9223372036854775808 ≤ n ∧ n ≤ 9223372036854775807
theorem badC_zero {x : En} {low high : Int} (h : badC x low high = 0) : checkE x = 0 ∧ 0 ≤ low ∧ 0 ≤ high ∧ low.toNat + high.toNat < x.members.length ∧ low = (low.toNat : Int) ∧ high = (high.toNat : Int) := by
  unfold badC at h
  split at h
  · rename_i h1; rw [h] at h1; simp at h1
  · rename_i h1
    split at h
    · cases h
    · rename_i h2
      simp only [argBad, Bool.or_eq_true, not_or, decide_eq_true_eq, Int.not_lt, Int.not_le] at h2
      refine ⟨by simpa using h1, h2.1.1.1, h2.1.1.2, by omega, by omega, by omega⟩

set_option maxHeartbeats 1000000 in
set_option maxRecDepth 10000 in
theorem bounds_c (x : En) (low high : Int) (hl : i64 low) (σ : List Ent) : SCall Try.prog 12 [.agg (enC x), .int .i64 low, .int .i64 high] σ (Is (bothC (bothE x low high val1)) σ) := by
  refine scall_of Try.func12 rfl (by simp) ?_
  by_cases hb : badC x low high = 0
  · obtain ⟨h1, h2, h3, h4, h5, h6⟩ := badC_zero hb
    have hr := fun σ : List Ent => ranges_c x low.toNat high.toNat 25 [] (val1 x) (fun _ _ => σ) h1 h4 (enters_b (by kernel_rfl)) (fun k i n front hn => (bounds1_c _ _ _).mono (by rintro _ _ ⟨⟩; exact ⟨by unfold val1; rw [hn]; rfl, rfl⟩)) (fun _ => rfl)
    rw [← h5, ← h6] at hr
    have e : bothE x low high val1 = (rgV (val1 x) x.members.length low.toNat high.toNat (hd x.members).length, 0) := by unfold bothE; rw [if_pos hb]
    rw [e]
    refine ex_seq ?_;
    refine ex_region ?_;
    refine exl_box rfl rfl rfl (g_box rfl rfl) ?_; intro _;
    apply exl_is; rfl; rfl; rfl; (apply g_assign; rfl);
    apply exl_is; rfl; rfl; rfl; (apply g_assign; rfl);
    refine exl_nilT ?_;
    refine ex_seq ?_;
    refine ex_region ?_;
    apply exl_is; rfl; rfl; rfl; (apply g_loadAgg; rfl; decide; rfl; (exact .p (by ((repeat (first | exact List.Mem.head _ | assumption | refine List.Mem.tail _ ?_)); done)) rfl rfl));
    apply exl_is; rfl; rfl; rfl; (apply g_move; rfl);
    apply exl_is; rfl; rfl; rfl; (apply g_move; rfl);
    apply exl_is; rfl; rfl; rfl; (exact g_call rfl rfl (enters_b (by kernel_rfl)) (hr _));
    apply exl_is; rfl; rfl; rfl; (apply g_extract; rfl; rfl);
    apply exl_is; rfl; rfl; rfl; (apply g_extract; rfl; rfl);
    apply exl_is; rfl; rfl; rfl; (apply g_assign; rfl);
    apply exl_is; rfl; rfl; rfl; (apply g_assign; rfl);
    refine exl_nilT ?_;
    refine ex_ret ?_;
    simp only [thenA, blockA, roundA, noGotoA, retA, ↓reduceIte, Nat.reduceEqDiff];
    rotate_left
    (all_goals (repeat (rename BV _ _ => hbv; cases hbv)))
    all_goals (try (exfalso; first | (rename true = false => hx; cases hx; done) | (rename false = true => hx; cases hx; done)))
    refine ret_q (σ3 := σ) .nil (.cons (.ofTmp rfl) (.cons (.ofTmp rfl) .nil)) (by repeat (first | exact List.Sublist.refl _ | apply List.Sublist.cons_cons | apply List.Sublist.cons)) ?_
    exact fin_done .mk
  · have hr := fun σ : List Ent => ranges_bad_c x low high hl.2 hl.1 25 [] σ hb
    have e : bothE x low high val1 = ([], badC x low high) := by unfold bothE; rw [if_neg hb]
    rw [e]
    refine ex_seq ?_;
    refine ex_region ?_;
    refine exl_box rfl rfl rfl (g_box rfl rfl) ?_; intro _;
    apply exl_is; rfl; rfl; rfl; (apply g_assign; rfl);
    apply exl_is; rfl; rfl; rfl; (apply g_assign; rfl);
    refine exl_nilT ?_;
    refine ex_seq ?_;
    refine ex_region ?_;
    apply exl_is; rfl; rfl; rfl; (apply g_loadAgg; rfl; decide; rfl; (exact .p (by ((repeat (first | exact List.Mem.head _ | assumption | refine List.Mem.tail _ ?_)); done)) rfl rfl));
    apply exl_is; rfl; rfl; rfl; (apply g_move; rfl);
    apply exl_is; rfl; rfl; rfl; (apply g_move; rfl);
    apply exl_is; rfl; rfl; rfl; (exact g_call rfl rfl (enters_b (by kernel_rfl)) (hr _));
    apply exl_is; rfl; rfl; rfl; (apply g_extract; rfl; rfl);
    apply exl_is; rfl; rfl; rfl; (apply g_extract; rfl; rfl);
    apply exl_is; rfl; rfl; rfl; (apply g_assign; rfl);
    apply exl_is; rfl; rfl; rfl; (apply g_assign; rfl);
    refine exl_nilT ?_;
    refine ex_ret ?_;
    simp only [thenA, blockA, roundA, noGotoA, retA, ↓reduceIte, Nat.reduceEqDiff];
    rotate_left
    (all_goals (repeat (rename BV _ _ => hbv; cases hbv)))
    all_goals (try (exfalso; first | (rename true = false => hx; cases hx; done) | (rename false = true => hx; cases hx; done)))
    refine ret_q (σ3 := σ) .nil (.cons (.ofTmp rfl) (.cons (.ofTmp rfl) .nil)) (by repeat (first | exact List.Sublist.refl _ | apply List.Sublist.cons_cons | apply List.Sublist.cons)) ?_
    exact fin_done .mk

/-! ### Totals -/
def sumsV (x : En) (k i : Nat) : List Int := (List.range x.members.length).map fun j => (x.members[j]?.map fun m => (m.take (if j < i then k + 1 else k)).sum).getD 0
theorem sumsV_get {x : En} {k i : Nat} {m : List Int} (hm : x.members[i]? = some m) : (sumsV x k i)[i]? = some (m.take k).sum := by
  have hi : i < x.members.length := (List.getElem?_eq_some_iff.1 hm).1
  simp only [sumsV, List.getElem?_map, List.getElem?_range hi, Option.map_some, hm, Option.getD_some]
  rw [if_neg (by omega)]
theorem sumsV_set {x : En} {k i : Nat} {m : List Int} {n : Int} (hm : x.members[i]? = some m) (hn : m[k]? = some n) : (sumsV x k i).set i ((m.take k).sum + n) = sumsV x k (i + 1) := by
  have hi : i < x.members.length := (List.getElem?_eq_some_iff.1 hm).1
  have hs : (m.take k).sum + n = (m.take (k + 1)).sum := by rw [List.take_add_one, hn]; simp
  apply List.ext_getElem?
  intro j
  rw [List.getElem?_set]
  by_cases e : i = j
  · subst e
    have hl : i < (sumsV x k i).length := by simp [sumsV, hi]
    rw [if_pos rfl, if_pos hl]
    simp only [sumsV, List.getElem?_map, List.getElem?_range hi, Option.map_some, hm, Option.getD_some]
    rw [if_pos (by omega), hs]
  · rw [if_neg e]
    simp only [sumsV, List.getElem?_map]
    by_cases hj : j < x.members.length
    · rw [List.getElem?_range hj]
      simp only [Option.map_some]
      by_cases h1 : j < i
      · rw [if_pos h1, if_pos (by omega)]
      · rw [if_neg h1, if_neg (by omega)]
    · rw [List.getElem?_eq_none (by simpa using hj)]; rfl
theorem sumsV_next (x : En) (k : Nat) : sumsV x k x.members.length = sumsV x (k + 1) 0 := by
  unfold sumsV
  refine List.map_congr_left fun j hj => ?_
  have := List.mem_range.1 hj
  rw [if_pos this, if_neg (by omega)]
theorem sumsV_zero (x : En) : sumsV x 0 0 = List.replicate x.members.length 0 := by
  apply List.ext_getElem?
  intro j
  by_cases hj : j < x.members.length
  · simp [sumsV, hj]
  · simp [sumsV, hj]
theorem sum_bound : ∀ {m : List Int} {k : Nat}, (∀ n ∈ m, 0 ≤ n ∧ n ≤ 1073741824) → 0 ≤ (m.take k).sum ∧ (m.take k).sum ≤ k * 1073741824
  | [], k, _ => by simp; omega
  | _ :: _, 0, _ => by simp
  | a :: m, k + 1, h => by
    have h1 := h a (by simp)
    have h2 := sum_bound (m := m) (k := k) (fun n hn => h n (by simp [hn]))
    simp only [List.take_succ_cons, List.sum_cons]
    omega

set_option maxHeartbeats 1000000 in
set_option maxRecDepth 10000 in
theorem totals_c (x : En) (low high : Int) (hl : i64 low) (hn : x.members.length ≤ 1000) (σ : List Ent) : SCall Try.prog 14 [.agg (enC x), .int .i64 low, .int .i64 high] σ (Is (bothC (bothE x low high val2)) σ) := by
  refine scall_of Try.func14 rfl (by simp) ?_
  by_cases hb : badC x low high = 0
  · obtain ⟨h1, h2, h3, h4, h5, h6⟩ := badC_zero hb
    have hrow := check_rows h1
    have h16 := check_16 h1
    have hr := fun (b : Nat) (t : TypeId) (v : Value) (σ : List Ent) => ranges_c x low.toNat high.toNat 27 [.ptr b 0] (val2 x) (fun k i => .cells b [.slv v] t :: .row v 3 1 ((sumsV x k i).map intC) :: σ) h1 h4 (enters_b (by kernel_rfl)) (fun k i n front hn => by
      obtain ⟨m, hm⟩ : ∃ m, x.members[i]? = some m := by cases hm : x.members[i]? with | none => rw [hm] at hn; cases hn | some m => exact ⟨m, rfl⟩
      have hn' : m[k]? = some n := by rw [hm] at hn; exact hn
      have hk : k < m.length := (List.getElem?_eq_some_iff.1 hn').1
      obtain ⟨r1, r2⟩ := hrow m (List.mem_of_getElem? hm)
      have hbd := sum_bound (m := m) (k := k) r2
      have hnb := r2 n (List.mem_of_getElem? hn')
      have hset := sumsV_set hm hn'
      have hu : Upd (front ++ .cells b [.slv v] t :: .row v 3 1 ((sumsV x k i).map intC) :: σ) (.row v 3 1 ((sumsV x k i).map intC)) (.row v 3 1 (((sumsV x k i).set i ((m.take k).sum + n)).map intC)) (front ++ .cells b [.slv v] t :: .row v 3 1 (((sumsV x k i).set i ((m.take k).sum + n)).map intC) :: σ) := Upd.front (.there .here) front
      refine (totals1_c (a := (m.take k).sum) (v := v) (t := t) (by simp) (by simp) (sumsV_get hm) hu ⟨by omega, by omega⟩ (by simp) (by simp)).mono ?_
      rintro _ _ ⟨⟩
      refine ⟨?_, by rw [hset]⟩
      unfold val2; rw [hm]; simp only [Option.map_some, Option.getD_some]; rw [List.take_add_one, hn']; simp) (fun k => by rw [sumsV_next])
    rw [← h5, ← h6] at hr
    have e : bothE x low high val2 = (rgV (val2 x) x.members.length low.toNat high.toNat (hd x.members).length, 0) := by unfold bothE; rw [if_pos hb]
    rw [e]
    have hz : (sumsV x 0 0).map intC = List.replicate x.members.length (List.map cA (Value.int .i64 0).cells.toList) := by rw [sumsV_zero, List.map_replicate]; rfl
    simp only [hz] at hr
    refine ex_seq ?_;
    refine ex_region ?_;
    refine exl_box rfl rfl rfl (g_box rfl rfl) ?_; intro _;
    apply exl_is; rfl; rfl; rfl; (apply g_assign; rfl);
    apply exl_is; rfl; rfl; rfl; (apply g_assign; rfl);
    refine exl_nilT ?_;
    refine ex_seq ?_;
    refine ex_region ?_;
    apply exl_is; rfl; rfl; rfl; (apply g_fieldAddr; rfl; rfl; rfl);
    apply exl_is; rfl; rfl; rfl; (apply g_load1; rfl; rfl; (exact .p (by ((repeat (first | exact List.Mem.head _ | assumption | refine List.Mem.tail _ ?_)); done)) rfl));
    apply exl_is; rfl; rfl; rfl; (apply g_len; rfl; rfl; (exact (List.length_map _).symm));
    refine exl_row rfl rfl rfl (by apply g_makeSlice; rfl; rfl; rfl; rfl; (rfl); (rfl); (refine app_ok ?_ (by kernel_rfl); (omega))) ?_; intro _;
    refine exl_box rfl rfl rfl (g_alloc rfl) ?_; intro _;
    apply exl_do; rfl; rfl; (apply g_store'; rfl; rfl; rfl; (exact Upd.here); (simp only [setL, List.set_cons_zero, List.set_cons_succ, AV.cells]; rfl); rfl; rfl; rfl; exact Nat.le_of_ble_eq_true rfl);
    refine exl_nilT ?_;
    refine ex_seq ?_;
    refine ex_region ?_;
    apply exl_is; rfl; rfl; rfl; (apply g_loadAgg; rfl; decide; rfl; (exact .p (by ((repeat (first | exact List.Mem.head _ | assumption | refine List.Mem.tail _ ?_)); done)) rfl rfl));
    apply exl_is; rfl; rfl; rfl; (apply g_move; rfl);
    apply exl_is; rfl; rfl; rfl; (apply g_move; rfl);
    apply exl_is; rfl; rfl; rfl; (apply g_makeFunc; rfl; rfl);
    apply exl_is; rfl; rfl; rfl; (exact g_call rfl rfl (enters_b (by kernel_rfl)) (hr _ _ _ _));
    apply exl_is; rfl; rfl; rfl; (apply g_extract; rfl; rfl);
    apply exl_is; rfl; rfl; rfl; (apply g_extract; rfl; rfl);
    apply exl_is; rfl; rfl; rfl; (apply g_assign; rfl);
    apply exl_is; rfl; rfl; rfl; (apply g_assign; rfl);
    refine exl_nilT ?_;
    refine ex_ret ?_;
    simp only [thenA, blockA, roundA, noGotoA, retA, ↓reduceIte, Nat.reduceEqDiff];
    rotate_left
    (all_goals (repeat (rename BV _ _ => hbv; cases hbv)))
    all_goals (try (exfalso; first | (rename true = false => hx; cases hx; done) | (rename false = true => hx; cases hx; done)))
    refine ret_q (σ3 := σ) .nil (.cons (.ofTmp rfl) (.cons (.ofTmp rfl) .nil)) (by repeat (first | exact List.Sublist.refl _ | apply List.Sublist.cons_cons | apply List.Sublist.cons)) ?_
    exact fin_done .mk
  · have hr := fun (cap : List AV) (σ : List Ent) => ranges_bad_c x low high hl.2 hl.1 27 cap σ hb
    have e : bothE x low high val2 = ([], badC x low high) := by unfold bothE; rw [if_neg hb]
    rw [e]
    refine ex_seq ?_;
    refine ex_region ?_;
    refine exl_box rfl rfl rfl (g_box rfl rfl) ?_; intro _;
    apply exl_is; rfl; rfl; rfl; (apply g_assign; rfl);
    apply exl_is; rfl; rfl; rfl; (apply g_assign; rfl);
    refine exl_nilT ?_;
    refine ex_seq ?_;
    refine ex_region ?_;
    apply exl_is; rfl; rfl; rfl; (apply g_fieldAddr; rfl; rfl; rfl);
    apply exl_is; rfl; rfl; rfl; (apply g_load1; rfl; rfl; (exact .p (by ((repeat (first | exact List.Mem.head _ | assumption | refine List.Mem.tail _ ?_)); done)) rfl));
    apply exl_is; rfl; rfl; rfl; (apply g_len; rfl; rfl; (exact (List.length_map _).symm));
    refine exl_row rfl rfl rfl (by apply g_makeSlice; rfl; rfl; rfl; rfl; (rfl); (rfl); (refine app_ok ?_ (by kernel_rfl); (omega))) ?_; intro _;
    refine exl_box rfl rfl rfl (g_alloc rfl) ?_; intro _;
    apply exl_do; rfl; rfl; (apply g_store'; rfl; rfl; rfl; (exact Upd.here); (simp only [setL, List.set_cons_zero, List.set_cons_succ, AV.cells]; rfl); rfl; rfl; rfl; exact Nat.le_of_ble_eq_true rfl);
    refine exl_nilT ?_;
    refine ex_seq ?_;
    refine ex_region ?_;
    apply exl_is; rfl; rfl; rfl; (apply g_loadAgg; rfl; decide; rfl; (exact .p (by ((repeat (first | exact List.Mem.head _ | assumption | refine List.Mem.tail _ ?_)); done)) rfl rfl));
    apply exl_is; rfl; rfl; rfl; (apply g_move; rfl);
    apply exl_is; rfl; rfl; rfl; (apply g_move; rfl);
    apply exl_is; rfl; rfl; rfl; (apply g_makeFunc; rfl; rfl);
    apply exl_is; rfl; rfl; rfl; (exact g_call rfl rfl (enters_b (by kernel_rfl)) (hr _ _));
    apply exl_is; rfl; rfl; rfl; (apply g_extract; rfl; rfl);
    apply exl_is; rfl; rfl; rfl; (apply g_extract; rfl; rfl);
    apply exl_is; rfl; rfl; rfl; (apply g_assign; rfl);
    apply exl_is; rfl; rfl; rfl; (apply g_assign; rfl);
    refine exl_nilT ?_;
    refine ex_ret ?_;
    simp only [thenA, blockA, roundA, noGotoA, retA, ↓reduceIte, Nat.reduceEqDiff];
    rotate_left
    (all_goals (repeat (rename BV _ _ => hbv; cases hbv)))
    all_goals (try (exfalso; first | (rename true = false => hx; cases hx; done) | (rename false = true => hx; cases hx; done)))
    refine ret_q (σ3 := σ) .nil (.cons (.ofTmp rfl) (.cons (.ofTmp rfl) .nil)) (by repeat (first | exact List.Sublist.refl _ | apply List.Sublist.cons_cons | apply List.Sublist.cons)) ?_
    exact fin_done .mk
end Go.Proofs.Ytimeggaignfhgaa
