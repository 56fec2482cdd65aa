/- CalibrateMore: the plain law. -/
import Derived.Test.YtkpeaimmjjekeaaCp
namespace Go.Proofs.Ytkpeaimmjjekeaa
set_option linter.unusedSimpArgs false
set_option linter.unusedVariables false

def dX (x : Pa) : List Int := (List.range x.bounds.length).map fun k => dist (x.bounds[k]?.getD (0, 0)) (x.seen[k]?.getD 0)
def dB (body : Int) (x : Pa) : List Int := if x.body = body then dX x else []
theorem distS_flat (l : List Pa) (body : Int) : ∀ n, n ≤ l.length → (trS l body n).map (·.2) = (l.take n).flatMap (dB body)
  | 0, _ => by simp [trS]
  | n + 1, hn => by
    obtain ⟨x, hx⟩ : ∃ x, l[n]? = some x := ⟨_, List.getElem?_eq_getElem (by omega)⟩
    rw [trS_succ, List.map_append, distS_flat l body n (by omega), List.take_add_one, hx, List.flatMap_append]
    congr 1
    simp only [Option.toList_some, List.flatMap_cons, List.flatMap_nil, List.append_nil, dB]
    split
    · simp only [tr1, dX, List.map_map]; rfl
    · rfl
theorem distL_flat (l : List Pa) (body : Int) : distL l body = l.flatMap (dB body) := by
  unfold distL trL
  rw [distS_flat l body _ (Nat.le_refl _), List.take_length]
theorem flat_own (l : List Pa) (body : Int) : (l.filter fun x => decide (x.body = body)).flatMap (dB body) = l.flatMap (dB body) := by
  induction l with
  | nil => rfl
  | cons x l ih =>
    by_cases h : x.body = body
    · rw [List.filter_cons_of_pos (by simpa using h), List.flatMap_cons, List.flatMap_cons, ih]
    · rw [List.filter_cons_of_neg (by simpa using h), List.flatMap_cons, ih]
      simp [dB, h]
theorem check_iff {l : List Pa} : checkP l = 0 ↔ (l.length : Int) ≤ 256 ∧ ∀ x ∈ l, badP x = false ∧ longP x = false := by
  constructor
  · intro h; exact ⟨(checkP_fit h).2, badP_false h⟩
  · rintro ⟨h1, h2⟩
    have a : limP l = false := by
      simp only [limP, Bool.or_eq_false_iff, decide_eq_false_iff_not, List.any_eq_false]
      exact ⟨by omega, fun x hx => by simp [(h2 x hx).2]⟩
    have c : l.any badP = false := by
      rw [List.any_eq_false]; exact fun x hx => by simp [(h2 x hx).1]
    unfold checkP
    rw [a, c]; rfl
theorem check_own {l : List Pa} (body : Int) (h : checkP l = 0) : checkP (l.filter fun x => decide (x.body = body)) = 0 := by
  rw [check_iff] at h ⊢
  have := List.length_filter_le (fun x : Pa => decide (x.body = body)) l
  exact ⟨by omega, fun x hx => h.2 x (List.mem_filter.1 hx).1⟩
theorem check_more {l : List Pa} {x : Pa} (h : checkP l = 0) (hl : l.length ≤ 19) (hx : checkP [x] = 0) : checkP (l ++ [x]) = 0 := by
  rw [check_iff] at h hx ⊢
  refine ⟨by simp; omega, fun y hy => ?_⟩
  rcases List.mem_append.1 hy with hy | hy
  · exact h.2 y hy
  · exact hx.2 y hy
theorem winE_mono {d : List Int} {m : Int} {w w' i : Nat} (h : w' ≤ w) : winE d m w' i ≤ winE d m w i := by
  unfold winE
  have e : (d.take i).drop (i - w') = ((d.take i).drop (i - w)).drop ((i - w') - (i - w)) := by rw [List.drop_drop]; congr 1; omega
  rw [e]
  exact (List.drop_sublist _ _).countP_le
theorem keeps_weaker {d : List Int} {b c : Int × Int} {m : Int} (h1 : b.1 ≤ c.1) (h2 : c.2 ≤ b.2) (h : keepsB d b m = true) : keepsB d c m = true := by
  simp only [keepsB, List.all_eq_true, List.mem_range, decide_eq_true_eq] at h ⊢
  intro i hi
  have a := h i hi
  have e := winE_mono (d := d) (m := m) (i := i + 1) (show c.2.toNat ≤ b.2.toNat by omega)
  omega
theorem marg_weaker {d : List Int} {b c : Int × Int} (hb : 0 ≤ b.1) (h0 : ∀ x ∈ d, 0 ≤ x) (h1 : b.1 ≤ c.1) (h2 : c.2 ≤ b.2) : margV d c ≤ margV d b := by
  obtain ⟨p1, p2, p3, p4⟩ := margV_spec (d := d) (b := b) hb h0
  obtain ⟨q1, q2, q3, q4⟩ := margV_spec (d := d) (b := c) (by omega) h0
  exact q4 _ p1 (keeps_weaker h1 h2 p3)
theorem winE_zeros {d z : List Int} {m : Int} {w i : Nat} (hm : 0 ≤ m) (hz : ∀ x ∈ z, x = 0) : ∃ j, j ≤ d.length ∧ winE (d ++ z) m w i ≤ winE d m w j ∧ (j = i ∨ j = d.length) := by
  by_cases hi : i ≤ d.length
  · refine ⟨i, hi, ?_, .inl rfl⟩
    unfold winE
    rw [List.take_append_of_le_length hi]
    exact Nat.le_refl _
  · refine ⟨d.length, Nat.le_refl _, ?_, .inr rfl⟩
    unfold winE
    rw [List.take_length, List.take_append, List.drop_append, List.countP_append, List.take_of_length_le (by omega)]
    have h1 : (((z.take (i - d.length)).drop (i - w - d.length)).countP (above m)) = 0 := by
      rw [List.countP_eq_zero]
      intro x hx
      have := hz x (List.mem_of_mem_take (List.mem_of_mem_drop hx))
      subst this
      simp [above]; omega
    rw [h1, Nat.add_zero]
    have e : d.drop (i - w) = (d.drop (d.length - w)).drop ((i - w) - (d.length - w)) := by rw [List.drop_drop]; congr 1; omega
    rw [e]
    exact (List.drop_sublist _ _).countP_le
theorem keeps_zeros {d z : List Int} {b : Int × Int} {m : Int} (hb : 0 ≤ b.1) (hm : 0 ≤ m) (hz : ∀ x ∈ z, x = 0) (h : keepsB d b m = true) : keepsB (d ++ z) b m = true := by
  simp only [keepsB, List.all_eq_true, List.mem_range, decide_eq_true_eq] at h ⊢
  intro i hi
  obtain ⟨j, h1, h2, h3⟩ := winE_zeros (d := d) (w := b.2.toNat) (i := i + 1) hm hz
  by_cases h0 : j = 0
  · subst h0
    have : winE d m b.2.toNat 0 = 0 := by simp [winE]
    omega
  · have h4 := h (j - 1) (by omega)
    rw [show j - 1 + 1 = j by omega] at h4
    omega
theorem marg_zeros {d z : List Int} {b : Int × Int} (hb : 0 ≤ b.1) (h0 : ∀ x ∈ d, 0 ≤ x) (hz : ∀ x ∈ z, x = 0) : margV (d ++ z) b ≤ margV d b := by
  obtain ⟨p1, p2, p3, p4⟩ := margV_spec (d := d) (b := b) hb h0
  obtain ⟨q1, q2, q3, q4⟩ := margV_spec (d := d ++ z) (b := b) hb (fun x hx => by
    rcases List.mem_append.1 hx with h | h
    · exact h0 x h
    · rw [hz x h]; exact Int.le_refl _)
  refine q4 _ ?_ (keeps_zeros hb p2 hz p3)
  rcases p1 with h | h
  · exact .inl h
  · exact .inr (List.mem_append.2 (.inl h))
end Go.Proofs.Ytkpeaimmjjekeaa
