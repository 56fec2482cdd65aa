/- EnsembleExchange: the plain law. -/
import Derived.Test.YtimeggaignfhgaaEr
namespace Go.Proofs.Ytimeggaignfhgaa
set_option linter.unusedSimpArgs false
set_option linter.unusedVariables false

/-- Does the i-th of C lie outside the bounds of all others? -/
def outC (low high : Nat) (C : List Int) (i : Nat) : Bool := decide (C[i]?.getD 0 < (trimE (C.eraseIdx i) low high).1) || decide ((trimE (C.eraseIdx i) low high).2 < C[i]?.getD 0)
def outQ (S : List Int) (low high : Nat) (c : Int) : Bool := decide (c < S[low + 1]?.getD 0) || decide (S[S.length - 2 - high]?.getD 0 < c)
theorem sort_cut {C : List Int} {i : Nat} {c : Int} (h : C[i]? = some c) : sortI (C.eraseIdx i) = (sortI C).erase c := by
  obtain ⟨hi, hc⟩ := List.getElem?_eq_some_iff.1 h
  refine List.Perm.eq_of_pairwise (le := (· ≤ ·)) (fun a b _ _ h k => by omega) (sortI_sorted _) ((sortI_sorted C).sublist (List.erase_sublist)) ?_
  refine (sortI_perm _).trans ?_
  have hm : c ∈ sortI C := (sortI_perm C).mem_iff.2 (List.mem_of_getElem? h)
  have h1 : (c :: C.eraseIdx i).Perm C := by
    rw [← hc, List.eraseIdx_eq_take_drop_succ]
    have e : C = C.take i ++ C[i] :: C.drop (i + 1) := by rw [← List.drop_eq_getElem_cons hi, List.take_append_drop]
    have h2 := (List.perm_middle (a := C[i]) (l₁ := C.take i) (l₂ := C.drop (i + 1))).symm
    rw [← e] at h2
    exact h2
  exact (List.perm_cons c).1 ((h1.trans (sortI_perm C).symm).trans (List.perm_cons_erase hm))
theorem erase_get {S : List Int} {c : Int} (h : c ∈ S) : ∃ j, S[j]? = some c ∧ (∀ i, i < j → S[i]? ≠ some c) ∧ ∀ i, (S.erase c)[i]? = if i < j then S[i]? else S[i + 1]? := by
  induction S with
  | nil => cases h
  | cons x S ih =>
    by_cases hx : x = c
    · subst hx
      exact ⟨0, rfl, by simp, fun i => by simp⟩
    · have hm : c ∈ S := by simpa [Ne.symm hx] using h
      obtain ⟨j, h1, h2, h3⟩ := ih hm
      refine ⟨j + 1, by simpa using h1, fun i hi => ?_, fun i => ?_⟩
      · cases i with
        | zero => simpa using hx
        | succ i => simpa using h2 i (by omega)
      · rw [List.erase_cons_tail (by simpa using hx)]
        cases i with
        | zero => simp
        | succ i => simp only [List.getElem?_cons_succ, h3, Nat.add_lt_add_iff_right]
theorem out_eq {C : List Int} {i : Nat} {low high : Nat} (hi : i < C.length) (hn : low + high + 2 ≤ C.length) : outC low high C i = outQ (sortI C) low high (C[i]?.getD 0) := by
  have hc : C[i]? = some C[i] := List.getElem?_eq_getElem hi
  obtain ⟨c, e⟩ : ∃ c, c = C[i] := ⟨_, rfl⟩
  rw [← e] at hc
  have hsl := sortI_length C
  have hcl : (C.eraseIdx i).length = C.length - 1 := by rw [List.length_eraseIdx, if_pos hi]
  have hm : c ∈ sortI C := (sortI_perm C).mem_iff.2 (List.mem_of_getElem? hc)
  obtain ⟨j, h1, h2, h3⟩ := erase_get hm
  have hj : j < C.length := by rw [← hsl]; exact (List.getElem?_eq_some_iff.1 h1).1
  have hs := sortI_sorted C
  have ex : ∀ k, k < C.length → ∃ a, (sortI C)[k]? = some a := fun k hk => ⟨_, List.getElem?_eq_getElem (by omega)⟩
  have lt_of : ∀ k a, k < j → (sortI C)[k]? = some a → a < c := fun k a hk ha => by
    have h4 := sorted_le hs (Nat.le_of_lt hk) ha h1
    have h5 : a ≠ c := fun e => h2 k hk (by rw [ha, e])
    omega
  simp only [outC, outQ, trimE, hc, Option.getD_some, sort_cut hc, hcl, hsl, h3]
  obtain ⟨a1, e1⟩ := ex low (by omega)
  obtain ⟨a2, e2⟩ := ex (low + 1) (by omega)
  obtain ⟨b1, e3⟩ := ex (C.length - 1 - 1 - high) (by omega)
  obtain ⟨b2, e4⟩ := ex (C.length - 1 - 1 - high + 1) (by omega)
  have e5 : C.length - 2 - high = C.length - 1 - 1 - high := by omega
  rw [e5, e1, e2, e3, e4]
  congr 1
  · by_cases hl : low < j
    · rw [if_pos hl]
      have k1 := lt_of _ _ hl e1
      have k2 := sorted_le hs (show low + 1 ≤ j by omega) e2 h1
      have k3 := sorted_le hs (Nat.le_succ low) e1 e2
      simp only [Option.getD_some]
      rw [decide_eq_false (by omega), decide_eq_false (by omega)]
    · rw [if_neg hl]
  · by_cases hl : C.length - 1 - 1 - high < j
    · rw [if_pos hl]
    · rw [if_neg hl]
      have k2 := sorted_le hs (show j ≤ C.length - 1 - 1 - high by omega) h1 e3
      have k3 := sorted_le hs (Nat.le_succ _) e3 e4
      simp only [Option.getD_some]
      rw [decide_eq_false (by omega), decide_eq_false (by omega)]
def cntO (low high : Nat) (C : List Int) (n : Nat) : Nat := (List.range n).countP (outC low high C)
theorem cntO_succ (low high : Nat) (C : List Int) (n : Nat) : cntO low high C (n + 1) = cntO low high C n + if outC low high C n then 1 else 0 := by
  simp [cntO, List.range_succ, List.countP_append, List.countP_cons]
theorem cntO_eq {C : List Int} {low high : Nat} (hn : low + high + 2 ≤ C.length) : cntO low high C C.length = (sortI C).countP (outQ (sortI C) low high) := by
  rw [(sortI_perm C).countP_eq]
  have e : C = (List.range C.length).map fun i => C[i]?.getD 0 := by
    apply List.ext_getElem?
    intro i
    by_cases hi : i < C.length
    · simp [hi]
    · simp [hi]
  conv => rhs; arg 2; rw [e]
  rw [List.countP_map]
  unfold cntO
  exact List.countP_congr fun i hi => by rw [out_eq (List.mem_range.1 hi) hn]; rfl
theorem count_out {S : List Int} (hs : S.Pairwise (· ≤ ·)) {low high : Nat} (hn : low + high + 2 ≤ S.length) : S.countP (outQ S low high) ≤ low + high + 2 ∧ (S.Nodup → S.countP (outQ S low high) = low + high + 2) := by
  have ex : ∀ k, k < S.length → ∃ a, S[k]? = some a := fun k hk => ⟨_, List.getElem?_eq_getElem hk⟩
  obtain ⟨a, ha⟩ := ex (low + 1) (by omega)
  obtain ⟨b, hb⟩ := ex (S.length - 2 - high) (by omega)
  have hq : ∀ c, outQ S low high c = (decide (c < a) || decide (b < c)) := fun c => by simp only [outQ, ha, hb, Option.getD_some]
  have split : S = S.take (low + 1) ++ ((S.drop (low + 1)).take (S.length - 2 - high - low) ++ S.drop (S.length - 1 - high)) := by
    conv => lhs; rw [← List.take_append_drop (low + 1) S]
    congr 1
    conv => lhs; rw [← List.take_append_drop (S.length - 2 - high - low) (S.drop (low + 1))]
    congr 1
    rw [List.drop_drop]; congr 1; omega
  have mid : ((S.drop (low + 1)).take (S.length - 2 - high - low)).countP (outQ S low high) = 0 := by
    rw [List.countP_eq_zero]
    intro c hc
    obtain ⟨i, hi⟩ := List.getElem?_of_mem hc
    rw [List.getElem?_take] at hi
    split at hi
    · rename_i hlt
      rw [List.getElem?_drop] at hi
      have k1 := sorted_le hs (show low + 1 ≤ low + 1 + i by omega) ha hi
      have k2 := sorted_le hs (show low + 1 + i ≤ S.length - 2 - high by omega) hi hb
      rw [hq, decide_eq_false (by omega), decide_eq_false (by omega)]; simp
    · cases hi
  have e : S.countP (outQ S low high) = (S.take (low + 1)).countP (outQ S low high) + (S.drop (S.length - 1 - high)).countP (outQ S low high) := by
    conv => lhs; arg 2; rw [split]
    rw [List.countP_append, List.countP_append, mid]; omega
  have l1 : (S.take (low + 1)).length = low + 1 := by simp; omega
  have l2 : (S.drop (S.length - 1 - high)).length = high + 1 := by simp; omega
  constructor
  · have h1 := List.countP_le_length (p := outQ S low high) (l := S.take (low + 1))
    have h2 := List.countP_le_length (p := outQ S low high) (l := S.drop (S.length - 1 - high))
    omega
  · intro hnd
    have strict : ∀ (i j : Nat) (x y : Int), i < j → S[i]? = some x → S[j]? = some y → x < y := fun i j x y hij hx hy => by
      have h1 := sorted_le hs (Nat.le_of_lt hij) hx hy
      have h2 : x ≠ y := fun e => by
        subst e
        obtain ⟨p1, p2⟩ := List.getElem?_eq_some_iff.1 hx
        obtain ⟨p3, p4⟩ := List.getElem?_eq_some_iff.1 hy
        exact List.pairwise_iff_getElem.1 hnd i j p1 p3 hij (p2.trans p4.symm)
      omega
    have t1 : (S.take (low + 1)).countP (outQ S low high) = low + 1 := by
      rw [List.countP_eq_length.2, l1]
      · intro c hc
        obtain ⟨i, hi⟩ := List.getElem?_of_mem hc
        rw [List.getElem?_take] at hi
        split at hi
        · rename_i hlt
          have := strict i (low + 1) c a (by omega) hi ha
          rw [hq, decide_eq_true this]; rfl
        · cases hi
    have t2 : (S.drop (S.length - 1 - high)).countP (outQ S low high) = high + 1 := by
      rw [List.countP_eq_length.2, l2]
      · intro c hc
        obtain ⟨i, hi⟩ := List.getElem?_of_mem hc
        rw [List.getElem?_drop] at hi
        have := strict (S.length - 2 - high) _ b c (by omega) hb hi
        rw [hq, decide_eq_true this]; simp
    omega
theorem exchange {C : List Int} {low high : Nat} (hn : low + high + 2 ≤ C.length) : cntO low high C C.length ≤ low + high + 2 ∧ (C.Nodup → cntO low high C C.length = low + high + 2) := by
  rw [cntO_eq hn]
  have h := count_out (sortI_sorted C) (low := low) (high := high) (by rw [sortI_length]; exact hn)
  exact ⟨h.1, fun hd => h.2 ((sortI_perm C).nodup_iff.2 hd)⟩
/-! ### The ensemble without its i-th member -/
theorem map_eraseIdx' {α β : Type} (f : α → β) : ∀ (l : List α) (k : Nat), (l.map f).eraseIdx k = (l.eraseIdx k).map f
  | [], k => by simp
  | x :: l, 0 => by simp
  | x :: l, k + 1 => by simp [map_eraseIdx' f l k]
def colX (x : En) (k : Nat) : List Int := x.members.map fun m => m[k]?.getD 0
theorem colX_eq (x : En) (k : Nat) : colV (val1 x) k x.members.length = colX x k := colV_map x k val1 (fun k m => m[k]?.getD 0) (fun i m hm => by simp [val1, hm])
def rgE (x : En) (l g i : Nat) : List Rg := (List.range (hd x.members).length).map fun k => trimE ((colX x k).eraseIdx i) l g
theorem less_bounds {x : En} (hc : checkE x = 0) {i l g : Nat} (hi : i < x.members.length) (hn : l + g + 2 ≤ x.members.length) : bothE ⟨x.body, x.made, x.members.eraseIdx i⟩ l g val1 = (rgE x l g i, 0) := by
  have hlen : (x.members.eraseIdx i).length = x.members.length - 1 := by rw [List.length_eraseIdx, if_pos hi]
  have hsub : ∀ m ∈ x.members.eraseIdx i, m ∈ x.members := fun m hm => List.mem_of_mem_eraseIdx hm
  have hne : x.members.eraseIdx i ≠ [] := fun e => by rw [e] at hlen; simp at hlen; omega
  have hrows := check_rows hc
  have hcy : checkE ⟨x.body, x.made, x.members.eraseIdx i⟩ = 0 := by
    rw [checkE_valid] at hc ⊢
    have h1 : limE x = false := by
      cases h : limE x with
      | false => rfl
      | true => rw [h] at hc; simp at hc
    have h2 : validE x = true := by
      cases h : validE x with
      | true => rfl
      | false => rw [h1, h] at hc; simp at hc
    have h3 : limE ⟨x.body, x.made, x.members.eraseIdx i⟩ = false := by
      simp only [limE, Bool.or_eq_false_iff, decide_eq_false_iff_not, List.any_eq_false, decide_eq_true_eq] at h1 ⊢
      exact ⟨by rw [hlen]; omega, fun m hm => h1.2 m (hsub m hm)⟩
    have h4 : validE ⟨x.body, x.made, x.members.eraseIdx i⟩ = true := by
      rw [valid_iff] at h2 ⊢
      obtain ⟨k1, _, n, k2, k3⟩ := h2
      exact ⟨k1, hne, n, k2, fun m hm => k3 m (hsub m hm)⟩
    rw [h3, h4]; rfl
  have hbad : badC ⟨x.body, x.made, x.members.eraseIdx i⟩ l g = 0 := by
    unfold badC
    rw [if_neg (by simp [hcy]), if_neg]
    simp only [argBad, hlen, Bool.or_eq_true, decide_eq_true_eq]
    omega
  have hk : (hd (x.members.eraseIdx i)).length = (hd x.members).length := by
    have hm : hd (x.members.eraseIdx i) ∈ x.members.eraseIdx i := List.mem_of_getElem? (hd_get (by omega))
    exact (hrows _ (hsub _ hm)).1
  unfold bothE
  rw [if_pos hbad]
  simp only [Int.toNat_natCast, hk]
  congr 1
  unfold rgV rgE
  refine List.map_congr_left fun k _ => ?_
  have := colX_eq ⟨x.body, x.made, x.members.eraseIdx i⟩ k
  rw [this]
  unfold colX
  rw [map_eraseIdx']
theorem colX_length (x : En) (k : Nat) : (colX x k).length = x.members.length := by simp [colX]
theorem rgE_get {x : En} {l g i k : Nat} (hk : k < (hd x.members).length) : (rgE x l g i)[k]? = some (trimE ((colX x k).eraseIdx i) l g) := by simp [rgE, hk]
theorem rgE_length (x : En) (l g i : Nat) : (rgE x l g i).length = (hd x.members).length := by simp [rgE]
theorem out_at {x : En} {l g i k : Nat} {m : List Int} {v : Int} (hm : x.members[i]? = some m) (hv : m[k]? = some v) : outC l g (colX x k) i = (decide (v < (trimE ((colX x k).eraseIdx i) l g).1) || decide ((trimE ((colX x k).eraseIdx i) l g).2 < v)) := by
  have : (colX x k)[i]?.getD 0 = v := by simp [colX, hm, hv]
  simp only [outC, this]
/-- How many of the first i members, of the first k columns also the next one, lie outside. -/
def rowO (x : En) (l g i k : Nat) : List Int := (List.range (hd x.members).length).map fun j => ((cntO l g (colX x j) (if j < k then i + 1 else i) : Nat) : Int)
theorem rowO_zero (x : En) (l g : Nat) : rowO x l g 0 0 = List.replicate (hd x.members).length 0 := by simp [rowO, cntO, List.map_const']
theorem rowO_next (x : En) (l g i : Nat) : rowO x l g i (hd x.members).length = rowO x l g (i + 1) 0 := by
  unfold rowO
  refine List.map_congr_left fun j hj => ?_
  rw [if_pos (List.mem_range.1 hj), if_neg (by omega)]
theorem rowO_length (x : En) (l g i k : Nat) : (rowO x l g i k).length = (hd x.members).length := by simp [rowO]
theorem rowO_get {x : En} {l g i k : Nat} (hk : k < (hd x.members).length) : (rowO x l g i k)[k]? = some ((cntO l g (colX x k) i : Nat) : Int) := by simp [rowO, hk]
theorem rowO_in {x : En} {l g i k : Nat} (hk : k < (hd x.members).length) (h : outC l g (colX x k) i = true) : (rowO x l g i k).set k ((cntO l g (colX x k) i : Nat) + 1 : Int) = rowO x l g i (k + 1) := by
  apply List.ext_getElem?
  intro j
  rw [List.getElem?_set]
  by_cases hj : k = j
  · subst hj
    rw [if_pos rfl, if_pos (by rw [rowO_length]; exact hk)]
    simp [rowO, hk, cntO_succ, h]
  · rw [if_neg hj]
    unfold rowO
    by_cases hjK : j < (hd x.members).length
    · simp only [List.getElem?_map, List.getElem?_range hjK, Option.map_some]
      congr 3
      by_cases hq : j < k
      · rw [if_pos hq, if_pos (by omega)]
      · rw [if_neg hq, if_neg (by omega)]
    · rw [List.getElem?_eq_none (by simp; omega), List.getElem?_eq_none (by simp; omega)]
theorem rowO_out {x : En} {l g i k : Nat} (h : outC l g (colX x k) i = false) : rowO x l g i k = rowO x l g i (k + 1) := by
  unfold rowO
  refine List.map_congr_left fun j hj => ?_
  by_cases h1 : j < k
  · rw [if_pos h1, if_pos (by omega)]
  · by_cases h2 : j = k
    · subst h2
      rw [if_neg h1, if_pos (by omega), cntO_succ, h]; simp
    · rw [if_neg h1, if_neg (by omega)]
theorem cntO_le (l g : Nat) (C : List Int) (n : Nat) : cntO l g C n ≤ n := by
  have := List.countP_le_length (p := outC l g C) (l := List.range n)
  simpa [cntO] using this
end Go.Proofs.Ytimeggaignfhgaa
