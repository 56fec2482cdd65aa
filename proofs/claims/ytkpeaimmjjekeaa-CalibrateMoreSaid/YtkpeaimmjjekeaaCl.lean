/- The reference: Within, Widen, Margin; the windows. -/
import Derived.Test.YtkpeaimmjjekeaaCk
namespace Go.Proofs.Ytkpeaimmjjekeaa
set_option linter.unusedSimpArgs false
set_option linter.unusedVariables false

/-! ### Windows that end and windows that begin -/
theorem winE_eq (T : List Tr) (m : Int) (w i : Nat) : winE (T.map (·.2)) m w i = ((T.take i).drop (i - w)).countP fun t => above m t.2 := by
  unfold winE
  rw [← List.map_take, ← List.map_drop, List.countP_map]; rfl
theorem countP_sub {α : Type} {p : α → Bool} {l m : List α} (h : l.Sublist m) : l.countP p ≤ m.countP p := h.countP_le
theorem keeps_eq {T : List Tr} {fl : Int} {w : Nat} {m : Int} (hw : 0 < w) : keepsR T (fl, (w : Int)) m = keepsB (T.map (·.2)) (fl, (w : Int)) m := by
  rw [Bool.eq_iff_iff]
  simp only [keepsR, keepsB, List.all_eq_true, List.mem_range, decide_eq_true_eq, List.length_map, Int.toNat_natCast]
  constructor
  · intro h i hi
    rw [winE_eq]
    have h1 := h (i + 1 - w) (by omega)
    refine Int.le_trans (Int.ofNat_le.2 ?_) h1
    unfold winR
    refine countP_sub ?_
    rw [List.drop_take]
    refine List.take_sublist_take_left ?_
    omega
  · intro h i hi
    have h1 := h (min (i + w) T.length - 1) (by omega)
    rw [winE_eq] at h1
    refine Int.le_trans (Int.ofNat_le.2 ?_) h1
    unfold winR
    refine countP_sub ?_
    rw [List.drop_take]
    have e : min (i + w) T.length - 1 + 1 = min (i + w) T.length := by omega
    rw [e]
    by_cases hl : i + w ≤ T.length
    · rw [Nat.min_eq_left hl, Nat.add_sub_cancel]
      have : i + w - i = w := by omega
      rw [this]
      exact List.Sublist.refl _
    · rw [Nat.min_eq_right (by omega)]
      refine (List.take_sublist _ _).trans ?_
      have e2 : (T.drop (T.length - w)).take (T.length - (T.length - w)) = T.drop (T.length - w) := List.take_of_length_le (by simp)
      rw [e2]
      have e3 : T.drop i = (T.drop (T.length - w)).drop (i - (T.length - w)) := by rw [List.drop_drop]; congr 1; omega
      rw [e3]
      exact List.drop_sublist _ _
end Go.Proofs.Ytkpeaimmjjekeaa
