/- The boundaries of two sets of days; what a combination of two canonical sets is. -/
import Derived.Test.YtccjolaolmpifaaDoorSu
import Derived.Test.YtccjolaolmpifaaDoorSetsB
namespace Go.Proofs.YtccjolaolmpifaaDoor
set_option linter.unusedSimpArgs false
set_option linter.unusedVariables false

theorem up_upB : ∀ {L : List Int}, L.Pairwise (· < ·) → upB L
  | [], _ => trivial
  | [_], _ => trivial
  | u :: v :: r, h => by
    rw [List.pairwise_cons] at h
    exact ⟨h.1 v (by simp), up_upB h.2⟩
theorem parts_of {p : Int → Bool} {E : List Int} (hc : ∀ u v, (∀ e ∈ E, e ≤ u ∨ v ≤ e) → ∀ n, u ≤ n → n < v → p n = p u) : ∀ {L : List Int}, L.Pairwise (· < ·) → (∀ e ∈ E, e ∈ L ∨ ∀ u ∈ L.head?, e < u) → Parts p L
  | [], _, _ => trivial
  | [_], _, _ => trivial
  | u :: v :: r, h, hE => by
    rw [List.pairwise_cons] at h
    have huv := h.1 v (by simp)
    refine ⟨hc u v fun e he => ?_, parts_of hc h.2 fun e he => ?_⟩
    · rcases hE e he with h1 | h1
      · rcases List.mem_cons.1 h1 with rfl | h1
        · exact .inl (Int.le_refl _)
        · rcases List.mem_cons.1 h1 with rfl | h1
          · exact .inr (Int.le_refl _)
          · have := (List.pairwise_cons.1 h.2).1 e h1; exact .inr (by omega)
      · have := h1 u (by simp); exact .inl (by omega)
    · rcases hE e he with h1 | h1
      · rcases List.mem_cons.1 h1 with rfl | h1
        · exact .inr fun w hw => by simp at hw; omega
        · exact .inl h1
      · exact .inr fun w hw => by have := h1 u (by simp); simp at hw; omega
def bndL (a b : List Sp) : List Int := setOf (endsL a ++ endsL b)
def inB (f : Bool → Bool → Bool) (a b : List Sp) (n : Int) : Bool := f (hasB a n) (hasB b n)
def combL (f : Bool → Bool → Bool) (a b : List Sp) : List Sp := refL (inB f a b) (bndL a b)
theorem ends_length (l : List Sp) : (endsL l).length = 2 * l.length := by
  unfold endsL
  induction l with
  | nil => rfl
  | cons x r ih => rw [List.flatMap_cons, List.length_append, ih]; simp; omega
theorem bnd_length (a b : List Sp) : (bndL a b).length ≤ 2 * (a.length + b.length) := by
  have := setOf_len (endsL a ++ endsL b)
  rw [List.length_append, ends_length, ends_length] at this
  unfold bndL; omega
theorem head_least {L : List Int} (h : L.Pairwise (· < ·)) {u : Int} (hu : u ∈ L.head?) : ∀ n ∈ L, u ≤ n := by
  cases L with
  | nil => cases hu
  | cons v r =>
    simp at hu; subst hu
    intro n hn
    rcases List.mem_cons.1 hn with rfl | hn
    · exact Int.le_refl _
    · have := (List.pairwise_cons.1 h).1 n hn; omega
theorem last_most : ∀ {L : List Int}, L.Pairwise (· < ·) → ∀ {u : Int}, u ∈ L.getLast? → ∀ n ∈ L, n ≤ u
  | [], _, _, hu, _, _ => by cases hu
  | [v], _, u, hu, n, hn => by simp at hu hn; omega
  | v :: w :: r, h, u, hu, n, hn => by
    rw [List.getLast?_cons_cons] at hu
    have ih := last_most (List.pairwise_cons.1 h).2 hu
    rcases List.mem_cons.1 hn with rfl | hn
    · have h1 := (List.pairwise_cons.1 h).1 w (by simp)
      have h2 := ih w (by simp)
      omega
    · exact ih n hn
section
variable {f : Bool → Bool → Bool} {a b : List Sp}
theorem bnd_mem {n : Int} : n ∈ bndL a b ↔ n ∈ endsL a ∨ n ∈ endsL b := by unfold bndL; rw [setOf_mem, List.mem_append]
theorem in_before (hf : f false false = false) {u : Int} (h : ∀ n ∈ bndL a b, u ≤ n) {n : Int} (hn : n < u) : inB f a b n = false := by
  unfold inB
  rw [has_before (fun m hm => h m (bnd_mem.2 (.inl hm))) hn, has_before (fun m hm => h m (bnd_mem.2 (.inr hm))) hn, hf]
theorem in_behind (hf : f false false = false) {u : Int} (h : ∀ n ∈ bndL a b, n ≤ u) {n : Int} (hn : u ≤ n) : inB f a b n = false := by
  unfold inB
  rw [has_behind (fun m hm => h m (bnd_mem.2 (.inl hm))) hn, has_behind (fun m hm => h m (bnd_mem.2 (.inr hm))) hn, hf]
/-- The program's loop gives the combination, and ends with no span open. -/
theorem cmb_comb (hf : f false false = false) : cmb (inB f a b) (bndL a b) = (false, combL f a b) :=
  cmb_ref (up_upB (setOf_up _)) fun x hx => in_behind hf (fun n hn => last_most (setOf_up _) hx n hn) (Int.le_refl _)
theorem comb_says (hf : f false false = false) (ha : chkFrom (-2) a = true) (hb : chkFrom (-2) b = true) : chkFrom (-2) (combL f a b) = true ∧ ∀ n, hasB (combL f a b) n = f (hasB a n) (hasB b n) := by
  refine ref_says (p := inB f a b) (up_upB (setOf_up _)) (fun n hn => ?_) (parts_of (E := bndL a b) (fun u v h n h1 h2 => ?_) (setOf_up _) fun e he => .inl he) (fun n hn => ?_) (fun n hn => ?_)
  · unfold inB at hn
    cases h1 : hasB a n with
    | true => exact has_range ha h1
    | false =>
      cases h2 : hasB b n with
      | true => exact has_range hb h2
      | false => rw [h1, h2, hf] at hn; cases hn
  · unfold inB
    rw [has_const (fun m hm => h m (bnd_mem.2 (.inl hm))) h1 h2, has_const (fun m hm => h m (bnd_mem.2 (.inr hm))) h1 h2]
  · cases hL : bndL a b with
    | nil => exact in_behind (u := n) hf (by rw [hL]; simp) (Int.le_refl _)
    | cons u r =>
      refine in_before (u := u) hf (fun m hm => ?_) (hn u (by rw [hL]; rfl))
      exact head_least (setOf_up _) (by unfold bndL at hL; rw [hL]; rfl) m hm
  · cases hL : (bndL a b).getLast? with
    | none =>
      rw [List.getLast?_eq_none_iff] at hL
      exact in_behind (u := n) hf (by rw [hL]; simp) (Int.le_refl _)
    | some u => exact in_behind hf (fun m hm => last_most (setOf_up _) hL m hm) (hn u hL)
theorem comb_len (hf : f false false = false) : (combL f a b).length ≤ a.length + b.length := by
  have h1 := cmb_len (inB f a b) (bndL a b) (false, []) 0 (by simp) (fun h => by cases h)
  have h2 : (bndL a b).foldl (cmbStep (inB f a b)) (false, []) = (false, combL f a b) := cmb_comb hf
  rw [h2] at h1
  have := bnd_length a b
  simp at h1
  omega
end
/-- The list without the spans that end before a day: is the day in its first span? -/
theorem has_adv : ∀ {l : List Sp} {last n : Int}, chkFrom last l = true → hasB l n = (match l.dropWhile (fun x => decide (x.t < n)) with | [] => false | x :: _ => decide (x.f ≤ n))
  | [], _, _, _ => rfl
  | x :: r, last, n, h => by
    obtain ⟨h1, h2, h3, h4, h5⟩ := chk_cons h
    rw [has_cons]
    by_cases hx : x.t < n
    · rw [List.dropWhile_cons_of_pos (by simpa using hx), decide_eq_false (show ¬ n ≤ x.t by omega), Bool.and_false, Bool.false_or]
      exact has_adv h5
    · rw [List.dropWhile_cons_of_neg (by simpa using hx), decide_eq_true (show n ≤ x.t by omega), Bool.and_true, has_low h5 (by omega), Bool.or_false]
theorem adv_adv {l : List Sp} {m n : Int} (h : m ≤ n) : (l.dropWhile fun x => decide (x.t < m)).dropWhile (fun x => decide (x.t < n)) = l.dropWhile fun x => decide (x.t < n) := by
  induction l with
  | nil => rfl
  | cons x r ih =>
    by_cases hx : x.t < m
    · rw [List.dropWhile_cons_of_pos (by simpa using hx), ih, List.dropWhile_cons_of_pos (by simp; omega)]
    · rw [List.dropWhile_cons_of_neg (by simpa using hx)]
/-- The reference's insertion. -/
def putL (l : List Int) (n : Int) : List Int := l.takeWhile (fun x => decide (x < n)) ++ [n] ++ (match l.dropWhile (fun x => decide (x < n)) with | [] => [] | x :: r => if x = n then r else x :: r)
theorem put_mem {l : List Int} {n x : Int} : x ∈ putL l n ↔ x = n ∨ x ∈ l := by
  have h := List.takeWhile_append_dropWhile (p := fun x => decide (x < n)) (l := l)
  have h2 : x ∈ l ↔ x ∈ l.takeWhile (fun x => decide (x < n)) ∨ x ∈ l.dropWhile (fun x => decide (x < n)) := by rw [← List.mem_append, h]
  rw [h2]
  unfold putL
  cases l.dropWhile (fun x => decide (x < n)) with
  | nil => simp; exact or_comm
  | cons y r =>
    simp only
    by_cases e : y = n
    · rw [if_pos e]; subst e; simp
      exact fun h => .inr (.inl h)
    · rw [if_neg e]; simp; constructor
      · rintro (h | h | h)
        · exact .inr (.inl h)
        · exact .inl h
        · exact .inr (.inr h)
      · rintro (h | h | h)
        · exact .inr (.inl h)
        · exact .inl h
        · exact .inr (.inr h)
theorem put_up {l : List Int} {n : Int} (h : l.Pairwise (· < ·)) : (putL l n).Pairwise (· < ·) := by
  induction l with
  | nil => simp [putL]
  | cons x r ih =>
    rw [List.pairwise_cons] at h
    unfold putL
    by_cases hx : x < n
    · rw [List.takeWhile_cons_of_pos (by simpa using hx), List.dropWhile_cons_of_pos (by simpa using hx)]
      show (x :: putL r n).Pairwise (· < ·)
      rw [List.pairwise_cons]
      refine ⟨fun y hy => ?_, ih h.2⟩
      rcases put_mem.1 hy with rfl | hy
      · exact hx
      · exact h.1 y hy
    · rw [List.takeWhile_cons_of_neg (by simpa using hx), List.dropWhile_cons_of_neg (by simpa using hx)]
      simp only [List.nil_append, List.singleton_append]
      by_cases e : x = n
      · rw [if_pos e]; subst e; rw [List.pairwise_cons]; exact h
      · rw [if_neg e, List.pairwise_cons, List.pairwise_cons]
        refine ⟨fun y hy => ?_, h⟩
        rcases List.mem_cons.1 hy with rfl | hy
        · omega
        · have := h.1 y hy; omega
def putEnds (at' : List Int) (l : List Sp) : List Int := l.foldl (fun at' x => putL (putL at' x.f) (x.t + 1)) at'
theorem putEnds_says : ∀ (l : List Sp) (at' : List Int), at'.Pairwise (· < ·) → (putEnds at' l).Pairwise (· < ·) ∧ ∀ n, n ∈ putEnds at' l ↔ n ∈ at' ∨ n ∈ endsL l
  | [], at', h => ⟨h, fun n => by simp [putEnds, endsL]⟩
  | x :: l, at', h => by
    obtain ⟨h1, h2⟩ := putEnds_says l _ (put_up (n := x.t + 1) (put_up (n := x.f) h))
    refine ⟨h1, fun n => (h2 n).trans ?_⟩
    rw [put_mem, put_mem, ends_mem, ends_mem]
    constructor
    · rintro ((e | e | e) | ⟨y, hy, e⟩)
      · exact .inr ⟨x, by simp, .inr e⟩
      · exact .inr ⟨x, by simp, .inl e⟩
      · exact .inl e
      · exact .inr ⟨y, by simp [hy], e⟩
    · rintro (e | ⟨y, hy, e⟩)
      · exact .inl (.inr (.inr e))
      · rcases List.mem_cons.1 hy with rfl | hy
        · rcases e with e | e
          · exact .inl (.inr (.inl e))
          · exact .inl (.inl e)
        · exact .inr ⟨y, hy, e⟩
/-- The reference's boundaries are the program's. -/
theorem putEnds_bnd (a b : List Sp) : putEnds (putEnds [] a) b = bndL a b := by
  obtain ⟨h1, h2⟩ := putEnds_says a [] List.Pairwise.nil
  obtain ⟨h3, h4⟩ := putEnds_says b _ h1
  refine up_ext h3 (setOf_up _) fun n => ?_
  rw [h4, h2, bnd_mem]
  simp
end Go.Proofs.YtccjolaolmpifaaDoor
