/- Insertion, and what the reference reduces to: plain Lean. -/
import Derived.Test.YtcmdkccncfleoaaLd
namespace Go.Proofs.Ytcmdkccncfleoaa
set_option linter.unusedSimpArgs false
set_option linter.unusedVariables false
/-- The reference's insertion. -/
def putL (l : List Int) (n : Int) : List Int := l.takeWhile (fun x => decide (x < n)) ++ [n] ++ (match l.dropWhile (fun x => decide (x < n)) with | [] => [] | x :: r => if x = n then r else x :: r)
theorem put_mem {l : List Int} {n x : Int} : x ∈ putL l n ↔ x = n ∨ x ∈ l := by
  have h := List.takeWhile_append_dropWhile (p := fun x => decide (x < n)) (l := l)
  have h2 : x ∈ l ↔ x ∈ l.takeWhile (fun x => decide (x < n)) ∨ x ∈ l.dropWhile (fun x => decide (x < n)) := by rw [← List.mem_append, h]
  rw [h2]
  unfold putL
  cases l.dropWhile (fun x => decide (x < n)) with
  | nil => simp; exact or_comm
  | cons y r =>
    simp only
    by_cases e : y = n
    · rw [if_pos e]; subst e; simp
      exact fun h => .inr (.inl h)
    · rw [if_neg e]; simp; constructor
      · rintro (h | h | h)
        · exact .inr (.inl h)
        · exact .inl h
        · exact .inr (.inr h)
      · rintro (h | h | h)
        · exact .inr (.inl h)
        · exact .inl h
        · exact .inr (.inr h)
theorem put_up {l : List Int} {n : Int} (h : l.Pairwise (· < ·)) : (putL l n).Pairwise (· < ·) := by
  induction l with
  | nil => simp [putL]
  | cons x r ih =>
    rw [List.pairwise_cons] at h
    unfold putL
    by_cases hx : x < n
    · rw [List.takeWhile_cons_of_pos (by simpa using hx), List.dropWhile_cons_of_pos (by simpa using hx)]
      show (x :: putL r n).Pairwise (· < ·)
      rw [List.pairwise_cons]
      refine ⟨fun y hy => ?_, ih h.2⟩
      rcases put_mem.1 hy with rfl | hy
      · exact hx
      · exact h.1 y hy
    · rw [List.takeWhile_cons_of_neg (by simpa using hx), List.dropWhile_cons_of_neg (by simpa using hx)]
      simp only [List.nil_append, List.singleton_append]
      by_cases e : x = n
      · rw [if_pos e]; subst e; rw [List.pairwise_cons]; exact h
      · rw [if_neg e, List.pairwise_cons, List.pairwise_cons]
        refine ⟨fun y hy => ?_, h⟩
        rcases List.mem_cons.1 hy with rfl | hy
        · omega
        · have := h.1 y hy; omega
theorem put_at {l : List Int} {n : Int} {k : Nat} (h1 : ∀ x ∈ l.take k, x < n) (h2 : ∀ c, l[k]? = some c → ¬ c < n) : putL l n = l.take k ++ [n] ++ (match l.drop k with | [] => [] | x :: r => if x = n then r else x :: r) := by
  unfold putL
  have key : ∀ (l : List Int) (k : Nat), (∀ x ∈ l.take k, x < n) → (∀ c, l[k]? = some c → ¬ c < n) → l.takeWhile (fun x => decide (x < n)) = l.take k ∧ l.dropWhile (fun x => decide (x < n)) = l.drop k := by
    intro l
    induction l with
    | nil => intro k _ _; simp
    | cons x r ih =>
      intro k h1 h2
      cases k with
      | zero =>
        have := h2 x rfl
        rw [List.takeWhile_cons_of_neg (by simpa using this), List.dropWhile_cons_of_neg (by simpa using this)]
        exact ⟨rfl, rfl⟩
      | succ k =>
        have hx := h1 x (by simp)
        obtain ⟨e1, e2⟩ := ih k (fun y hy => h1 y (by simp [hy])) (fun c hc => h2 c (by simpa using hc))
        rw [List.takeWhile_cons_of_pos (by simpa using hx), List.dropWhile_cons_of_pos (by simpa using hx), e1, e2]
        exact ⟨rfl, rfl⟩
  obtain ⟨e1, e2⟩ := key l k h1 h2
  rw [e1, e2]
theorem put_len (l : List Int) (n : Int) : (putL l n).length ≤ l.length + 1 := by
  have h := congrArg List.length (List.takeWhile_append_dropWhile (p := fun x => decide (x < n)) (l := l))
  rw [List.length_append] at h
  unfold putL
  rw [List.length_append, List.length_append, List.length_singleton]
  cases hd : l.dropWhile (fun x => decide (x < n)) with
  | nil => rw [hd] at h; simp at h ⊢; omega
  | cons x r =>
    rw [hd] at h
    simp only [List.length_cons] at h ⊢
    split
    · omega
    · simp only [List.length_cons]; omega
theorem int_ext : ∀ {l m : List Int}, l.Pairwise (· < ·) → m.Pairwise (· < ·) → (∀ y, y ∈ l ↔ y ∈ m) → l = m
  | [], [], _, _, _ => rfl
  | [], y :: m, _, _, h => absurd ((h y).2 (by simp)) (by simp)
  | x :: l, [], _, _, h => absurd ((h x).1 (by simp)) (by simp)
  | x :: l, y :: m, hl, hm, h => by
    rw [List.pairwise_cons] at hl hm
    have hxy : x = y := by
      rcases List.mem_cons.1 ((h x).1 (by simp)) with e | h1
      · exact e
      · rcases List.mem_cons.1 ((h y).2 (by simp)) with e | h2
        · exact e.symm
        · have := hm.1 x h1; have := hl.1 y h2; omega
    subst hxy
    rw [int_ext hl.2 hm.2 fun z => ?_]
    constructor
    · intro hz
      rcases List.mem_cons.1 ((h z).1 (by simp [hz])) with rfl | h1
      · have := hl.1 z hz; omega
      · exact h1
    · intro hz
      rcases List.mem_cons.1 ((h z).2 (by simp [hz])) with rfl | h1
      · have := hm.1 z hz; omega
      · exact h1
/-- The least sets of the first ones, put in order. -/
def redP (F : List Nat) : List Nat → List Int
  | [] => []
  | s :: r => if leastB F s then putL (redP F r) s else redP F r
def redK (F : List Nat) (k : Nat) : List Int := redP F (F.take k).reverse
theorem redK_step {F : List Nat} {k s : Nat} (h : F[k]? = some s) : redK F (k + 1) = if leastB F s then putL (redK F k) s else redK F k := by
  unfold redK; rw [List.take_add_one, h]; simp [redP]
theorem redP_up (F : List Nat) : ∀ l, (redP F l).Pairwise (· < ·)
  | [] => .nil
  | s :: r => by unfold redP; split; exact put_up (redP_up F r); exact redP_up F r
theorem redP_len (F : List Nat) : ∀ l, (redP F l).length ≤ l.length
  | [] => Nat.le_refl _
  | s :: r => by
    have := redP_len F r
    have := put_len (redP F r) s
    unfold redP; split <;> simp only [List.length_cons] <;> omega
theorem redK_len (F : List Nat) (k : Nat) : (redK F k).length ≤ F.length := by
  have := redP_len F (F.take k).reverse
  rw [List.length_reverse, List.length_take] at this
  unfold redK; omega
theorem redP_mem (F : List Nat) (x : Int) : ∀ l, x ∈ redP F l ↔ ∃ s ∈ l, leastB F s = true ∧ x = (s : Int)
  | [] => by simp [redP]
  | s :: r => by
    have ih := redP_mem F x r
    unfold redP
    cases h : leastB F s with
    | true =>
      rw [if_pos rfl, put_mem, ih]
      constructor
      · rintro (h1 | ⟨t, h1, h2, h3⟩)
        · exact ⟨s, by simp, h, h1⟩
        · exact ⟨t, by simp [h1], h2, h3⟩
      · rintro ⟨t, h1, h2, h3⟩
        rcases List.mem_cons.1 h1 with rfl | h1
        · exact .inl h3
        · exact .inr ⟨t, h1, h2, h3⟩
    | false =>
      rw [if_neg (by simp), ih]
      constructor
      · rintro ⟨t, h1, h2, h3⟩; exact ⟨t, by simp [h1], h2, h3⟩
      · rintro ⟨t, h1, h2, h3⟩
        rcases List.mem_cons.1 h1 with rfl | h1
        · rw [h] at h2; cases h2
        · exact ⟨t, h1, h2, h3⟩
theorem redK_all {F : List Nat} {N : Nat} (hF : ∀ s ∈ F, s < 2 ^ N) : redK F F.length = (redL F N).map fun (n : Nat) => (n : Int) := by
  refine int_ext (redP_up F _) ?_ fun x => ?_
  · rw [List.pairwise_map]; exact (redL_up F N).imp fun h => by omega
  · unfold redK
    rw [redP_mem, List.mem_map]
    constructor
    · rintro ⟨s, h1, h2, h3⟩
      exact ⟨s, (redL_mem hF s).2 (leastB_iff.1 h2), h3.symm⟩
    · rintro ⟨s, h1, h2⟩
      have h3 := (redL_mem hF s).1 h1
      exact ⟨s, by simpa using h3.1, leastB_iff.2 h3, h2.symm⟩
theorem leastB_mem {F : List Nat} {s : Nat} (h : s ∈ F) : leastB F s = F.all fun t => !(t != s && subB t s) := by
  unfold leastB; rw [List.contains_iff_mem.2 h]; rfl
theorem all_take {α : Type} {l : List α} {k : Nat} {a : α} (h : l[k]? = some a) (p : α → Bool) : (l.take (k + 1)).all p = ((l.take k).all p && p a) := by
  rw [List.take_add_one, h, List.all_append]; simp
theorem any_take {α : Type} {l : List α} {k : Nat} {a : α} (h : l[k]? = some a) (p : α → Bool) : (l.take (k + 1)).any p = ((l.take k).any p || p a) := by
  rw [List.take_add_one, h, List.any_append]; simp
theorem range_all (n : Nat) (p : Nat → Bool) : (List.range (n + 1)).all p = ((List.range n).all p && p n) := by
  rw [List.range_succ, List.all_append]; simp
theorem range_filter (n : Nat) (p : Nat → Bool) : (List.range (n + 1)).filter p = (List.range n).filter p ++ (if p n then [n] else []) := by
  rw [List.range_succ, List.filter_append]; cases h : p n <;> simp [h]
theorem wout_cast {s i : Nat} (h : s.testBit i = true) : ((s : Int) - ((2 ^ i : Nat) : Int)) = ((wout s i : Nat) : Int) := by
  have := wout_add h; omega
theorem filter_len {n : Nat} {p : Nat → Bool} : ((List.range n).filter p).length ≤ n := by
  have := List.length_filter_le p (List.range n)
  rw [List.length_range] at this; exact this
end Go.Proofs.Ytcmdkccncfleoaa
