/- Sets of days: what is in a combination, how long it is, how many days it has. -/
import Derived.Test.YtccjolaolmpifaaDoorSets
namespace Go.Proofs.YtccjolaolmpifaaDoor
set_option linter.unusedSimpArgs false
set_option linter.unusedVariables false

def lastT (last : Int) (l : List Sp) : Int := l.foldl (fun _ x => x.t) last
theorem lastT_snoc (last : Int) (l : List Sp) (x : Sp) : lastT last (l ++ [x]) = x.t := by unfold lastT; rw [List.foldl_append]; rfl
theorem chk_snoc : ∀ (l : List Sp) (last : Int) (x : Sp), chkFrom last (l ++ [x]) = true ↔ chkFrom last l = true ∧ 0 ≤ x.f ∧ x.t ≤ 73048 ∧ x.f ≤ x.t ∧ lastT last l + 2 ≤ x.f
  | [], last, x => by
    constructor
    · intro h
      have := chk_cons h
      exact ⟨rfl, this.1, this.2.1, this.2.2.1, this.2.2.2.1⟩
    · rintro ⟨_, h1, h2, h3, h4⟩
      exact chk_mk h1 h2 h3 h4 rfl
  | y :: l, last, x => by
    have ih := chk_snoc l y.t x
    constructor
    · intro h
      obtain ⟨h1, h2, h3, h4, h5⟩ := chk_cons h
      obtain ⟨g1, g2⟩ := ih.1 h5
      exact ⟨chk_mk h1 h2 h3 h4 g1, g2⟩
    · rintro ⟨h, g⟩
      obtain ⟨h1, h2, h3, h4, h5⟩ := chk_cons h
      exact chk_mk h1 h2 h3 h4 (ih.2 ⟨h5, g⟩)
/-- What the reference has before a boundary. -/
structure Before (p : Int → Bool) (u : Int) (out : List Sp) : Prop where
  chk : chkFrom (-2) out = true
  last : lastT (-2) out < u ∨ out = []
  low : ∀ n, n < u → hasB out n = p n
  high : ∀ n, u ≤ n → hasB out n = false
theorem snoc_cases {α : Type} (l : List α) : l = [] ∨ ∃ k x, l = k ++ [x] := by
  rcases List.eq_nil_or_concat l with h | ⟨k, x, h⟩
  · exact .inl h
  · exact .inr ⟨k, x, by simpa using h⟩
theorem before_step {p : Int → Bool} {u v : Int} {out : List Sp} (h : Before p u out) (hv : u < v) (hc : ∀ n, u ≤ n → n < v → p n = p u) (hr : ∀ n, p n = true → 0 ≤ n ∧ n ≤ 73048) : Before p v (refStep p out u v) := by
  unfold refStep
  cases hp : p u with
  | false =>
    rw [if_neg (by decide)]
    exact ⟨h.chk, by rcases h.last with e | e; exact .inl (by omega); exact .inr e, fun n hn => by
      by_cases hn2 : n < u
      · exact h.low n hn2
      · rw [h.high n (by omega), hc n (by omega) hn, hp], fun n hn => h.high n (by omega)⟩
  | true =>
    have hu := hr u hp
    have hv2 := hr (v - 1) (by rw [hc (v - 1) (by omega) (by omega), hp])
    have new : ∀ n, (decide (u ≤ n) && decide (n ≤ v - 1)) = true ↔ u ≤ n ∧ n < v := fun n => by simp; omega
    rw [if_pos rfl]
    rcases snoc_cases out with e | ⟨k, x, e⟩
    · subst e
      simp only [List.reverse_nil, List.nil_append]
      refine ⟨chk_mk hu.1 hv2.2 (by simp only; omega) (by simp only; omega) rfl, .inl (by show v - 1 < v; omega), fun n hn => ?_, fun n hn => ?_⟩
      · show ((decide (u ≤ n) && decide (n ≤ v - 1)) || false) = p n
        rw [Bool.or_false]
        by_cases hn2 : u ≤ n
        · rw [hc n hn2 hn, hp]; exact (new n).2 ⟨hn2, hn⟩
        · rw [← h.low n (by omega), decide_eq_false hn2]; rfl
      · show ((decide (u ≤ n) && decide (n ≤ v - 1)) || false) = false
        rw [decide_eq_false (show ¬ n ≤ v - 1 by omega)]; simp
    · subst e
      have hl : x.t < u := by
        rcases h.last with e | e
        · rw [lastT_snoc] at e; exact e
        · simp at e
      obtain ⟨c1, c2, c3, c4, c5⟩ := (chk_snoc k (-2) x).1 h.chk
      simp only [List.reverse_append, List.reverse_cons, List.reverse_nil, List.nil_append, List.singleton_append]
      by_cases hx : x.t + 1 = u
      · rw [if_pos hx, setTo_append]
        have hh : ∀ n, hasB (k ++ [⟨x.f, v - 1⟩]) n = (hasB (k ++ [x]) n || (decide (u ≤ n) && decide (n ≤ v - 1))) := fun n => by
          rw [has_append, has_append, Bool.or_assoc]
          congr 1
          show ((decide (x.f ≤ n) && decide (n ≤ v - 1)) || false) = (((decide (x.f ≤ n) && decide (n ≤ x.t)) || false) || (decide (u ≤ n) && decide (n ≤ v - 1)))
          rw [Bool.or_false, Bool.or_false, Bool.eq_iff_iff]
          simp; omega
        refine ⟨(chk_snoc k (-2) ⟨x.f, v - 1⟩).2 ⟨c1, c2, hv2.2, by simp only; omega, c5⟩, .inl (by rw [lastT_snoc]; simp only; omega), fun n hn => ?_, fun n hn => ?_⟩
        · rw [hh]
          by_cases hn2 : u ≤ n
          · rw [(new n).2 ⟨hn2, hn⟩, hc n hn2 hn, hp]; simp
          · rw [h.low n (by omega), decide_eq_false hn2]; simp
        · rw [hh, h.high n (by omega), decide_eq_false (show ¬ n ≤ v - 1 by omega)]; simp
      · rw [if_neg hx]
        have hh : ∀ n, hasB (k ++ [x] ++ [⟨u, v - 1⟩]) n = (hasB (k ++ [x]) n || (decide (u ≤ n) && decide (n ≤ v - 1))) := fun n => by
          rw [has_append]; congr 1
          show ((decide (u ≤ n) && decide (n ≤ v - 1)) || false) = _
          rw [Bool.or_false]
        refine ⟨(chk_snoc _ (-2) ⟨u, v - 1⟩).2 ⟨h.chk, hu.1, hv2.2, by simp only; omega, by rw [lastT_snoc]; simp only; omega⟩, .inl (by rw [lastT_snoc]; simp only; omega), fun n hn => ?_, fun n hn => ?_⟩
        · rw [hh]
          by_cases hn2 : u ≤ n
          · rw [(new n).2 ⟨hn2, hn⟩, hc n hn2 hn, hp]; simp
          · rw [h.low n (by omega), decide_eq_false hn2]; simp
        · rw [hh, h.high n (by omega), decide_eq_false (show ¬ n ≤ v - 1 by omega)]; simp
/-- No boundary between neighbours. -/
def Parts (p : Int → Bool) : List Int → Prop
  | u :: v :: r => (∀ n, u ≤ n → n < v → p n = p u) ∧ Parts p (v :: r)
  | _ => True
theorem before_all {p : Int → Bool} (hr : ∀ n, p n = true → 0 ≤ n ∧ n ≤ 73048) : ∀ (r : List Int) (u : Int) (out : List Sp), Before p u out → upB (u :: r) → Parts p (u :: r) → Before p ((u :: r).getLast (by simp)) (refFrom p out (u :: r))
  | [], u, out, h, _, _ => h
  | v :: r, u, out, h, hu, hc => by
    rw [List.getLast_cons (by simp)]
    exact before_all hr r v _ (before_step h hu.1 hc.1 hr) hu.2 hc.2
/-- The combination: canonical, and has what it must. -/
theorem ref_says {p : Int → Bool} {L : List Int} (hu : upB L) (hr : ∀ n, p n = true → 0 ≤ n ∧ n ≤ 73048) (hc : Parts p L) (h0 : ∀ n, (∀ u ∈ L.head?, n < u) → p n = false) (h1 : ∀ n, (∀ u ∈ L.getLast?, u ≤ n) → p n = false) :
    chkFrom (-2) (refL p L) = true ∧ ∀ n, hasB (refL p L) n = p n := by
  cases L with
  | nil => exact ⟨rfl, fun n => (h0 n (by simp)).symm⟩
  | cons u r =>
    have hb : Before p u [] := ⟨rfl, .inr rfl, fun n hn => (h0 n (by simpa using hn)).symm, fun _ _ => rfl⟩
    have hB := before_all hr r u [] hb hu hc
    refine ⟨hB.chk, fun n => ?_⟩
    by_cases hn : n < (u :: r).getLast (by simp)
    · exact hB.low n hn
    · rw [show refL p (u :: r) = refFrom p [] (u :: r) from rfl, hB.high n (by omega)]
      refine (h1 n fun w hw => ?_).symm
      rw [List.getLast?_eq_some_getLast (by simp)] at hw
      simp only [Option.mem_def, Option.some.injEq] at hw
      omega

/-- How many spans come of so many boundaries. -/
theorem cmb_len (p : Int → Bool) : ∀ (L : List Int) (s : Bool × List Sp) (k : Nat), 2 * s.2.length ≤ k + s.1.toNat → (s.1 = true → s.2 ≠ []) → 2 * (L.foldl (cmbStep p) s).2.length ≤ k + L.length + (L.foldl (cmbStep p) s).1.toNat
  | [], s, k, h, _ => h
  | n :: L, (o, l), k, h, hne => by
    have := cmb_len p L (cmbStep p (o, l) n) (k + 1) (by
      unfold cmbStep
      simp only at h
      cases o <;> cases p n <;> simp <;> simp at h
      · omega
      · omega
      · rcases snoc_cases l with e | ⟨a, x, e⟩
        · exact absurd e (hne rfl)
        · subst e; rw [setTo_append]; simp at h ⊢; omega
      · omega) (by
      unfold cmbStep
      cases o <;> cases p n <;> simp
      exact hne rfl)
    simp only [List.foldl_cons, List.length_cons]
    omega

/-! ### Counting -/
def cntL (l : List Sp) : Int := (l.map fun x => x.t - x.f + 1).sum
def numB (q : Int → Bool) : Nat := (List.range 73049).countP fun (n : Nat) => q (n : Int)
theorem count_span (f t : Int) (h0 : 0 ≤ f) (h : f ≤ t + 1) : ∀ m : Nat, (((List.range m).countP fun (n : Nat) => decide (f ≤ (n : Int)) && decide ((n : Int) ≤ t) : Nat) : Int) = if (m : Int) ≤ f then 0 else if t + 1 ≤ m then t + 1 - f else m - f
  | 0 => by simp [h0]
  | m + 1 => by
    have ih := count_span f t h0 h m
    rw [List.range_succ, List.countP_append, List.countP_singleton]
    have hs : ((if (decide (f ≤ (m : Int)) && decide ((m : Int) ≤ t)) = true then 1 else 0 : Nat) : Int) = if f ≤ (m : Int) ∧ (m : Int) ≤ t then 1 else 0 := by
      by_cases h1 : f ≤ (m : Int) ∧ (m : Int) ≤ t
      · rw [if_pos h1, if_pos (by simp [h1])]; rfl
      · rw [if_neg h1, if_neg (by simpa using h1)]; rfl
    push_cast at hs ⊢
    rw [ih, hs]
    repeat' split
    all_goals omega
theorem num_span {f t : Int} (h0 : 0 ≤ f) (h : f ≤ t + 1) (h1 : t ≤ 73048) : (numB (fun n => decide (f ≤ n) && decide (n ≤ t)) : Int) = t - f + 1 := by
  unfold numB
  rw [count_span f t h0 h 73049]
  repeat' split
  all_goals omega
theorem countP_or {α : Type} (p q : α → Bool) : ∀ l : List α, (l.countP fun n => p n || q n) + (l.countP fun n => p n && q n) = l.countP p + l.countP q
  | [] => rfl
  | x :: l => by
    have := countP_or p q l
    simp only [List.countP_cons]
    cases p x <;> cases q x <;> simp <;> omega
theorem countP_not {α : Type} (p q : α → Bool) : ∀ l : List α, (l.countP fun n => p n && !q n) + (l.countP fun n => p n && q n) = l.countP p
  | [] => rfl
  | x :: l => by
    have := countP_not p q l
    simp only [List.countP_cons]
    cases p x <;> cases q x <;> simp <;> omega
theorem num_or (p q : Int → Bool) : numB (fun n => p n || q n) + numB (fun n => p n && q n) = numB p + numB q := countP_or _ _ _
theorem num_not (p q : Int → Bool) : numB (fun n => p n && !q n) + numB (fun n => p n && q n) = numB p := countP_not _ _ _
theorem num_none {q : Int → Bool} (h : ∀ n, q n = false) : numB q = 0 := by unfold numB; rw [List.countP_eq_zero]; intro x _; rw [h]; simp
theorem num_cons (x : Sp) {r : List Sp} {last : Int} (h : chkFrom last (x :: r) = true) (q : Int → Bool) : numB (fun n => hasB (x :: r) n && q n) = numB (fun n => (decide (x.f ≤ n) && decide (n ≤ x.t)) && q n) + numB (fun n => hasB r n && q n) := by
  obtain ⟨h1, h2, h3, h4, h5⟩ := chk_cons h
  have := num_or (fun n => (decide (x.f ≤ n) && decide (n ≤ x.t)) && q n) (fun n => hasB r n && q n)
  rw [num_none (q := fun n => ((decide (x.f ≤ n) && decide (n ≤ x.t)) && q n) && (hasB r n && q n)) (fun n => by
    by_cases hn : n ≤ x.t
    · rw [has_low h5 (by omega)]; simp
    · rw [decide_eq_false hn]; simp), Nat.add_zero] at this
  have e : (fun n => hasB (x :: r) n && q n) = fun n => ((decide (x.f ≤ n) && decide (n ≤ x.t)) && q n) || (hasB r n && q n) := by
    funext n
    rw [has_cons]
    cases q n <;> simp
  rw [e]
  exact this
/-- How many days a list has. -/
theorem cnt_num : ∀ {l : List Sp} {last : Int}, chkFrom last l = true → cntL l = numB (hasB l)
  | [], _, _ => by rw [num_none (q := hasB []) (fun n => rfl)]; rfl
  | x :: r, last, h => by
    have hx := num_cons x h (fun _ => true)
    simp only [Bool.and_true] at hx
    obtain ⟨h1, h2, h3, h4, h5⟩ := chk_cons h
    have ih := cnt_num h5
    have hs := num_span (f := x.f) (t := x.t) h1 (by omega) h2
    have ec : cntL (x :: r) = (x.t - x.f + 1) + cntL r := by simp [cntL]
    have hx' : numB (hasB (x :: r)) = numB (fun n => decide (x.f ≤ n) && decide (n ≤ x.t)) + numB (hasB r) := hx
    rw [ec, hx', Int.natCast_add, hs, ih]
/-- The day with an index. -/
def nthL : List Sp → Int → Option Int
  | [], _ => none
  | x :: r, k => if k < x.t - x.f + 1 then some (x.f + k) else nthL r (k - (x.t - x.f + 1))
theorem nth_some : ∀ {l : List Sp} {last k d : Int}, chkFrom last l = true → 0 ≤ k → nthL l k = some d → hasB l d = true ∧ (numB (fun n => hasB l n && (decide (0 ≤ n) && decide (n ≤ d))) : Int) = k + 1
  | [], _, _, _, _, _, h => by cases h
  | x :: r, last, k, d, h, hk, hd => by
    have hx := num_cons x h (fun n => decide (0 ≤ n) && decide (n ≤ d))
    obtain ⟨h1, h2, h3, h4, h5⟩ := chk_cons h
    unfold nthL at hd
    rw [hx]
    push_cast
    split at hd
    · rename_i hlt
      cases hd
      constructor
      · rw [has_cons]; simp; omega
      · rw [num_none (q := fun n => hasB r n && (decide (0 ≤ n) && decide (n ≤ x.f + k))) (fun n => by
          by_cases hn : n < x.t + 2
          · rw [has_low h5 hn]; rfl
          · rw [decide_eq_false (show ¬ n ≤ x.f + k by omega)]; simp)]
        have e : (fun n : Int => (decide (x.f ≤ n) && decide (n ≤ x.t)) && (decide (0 ≤ n) && decide (n ≤ x.f + k))) = fun n => decide (x.f ≤ n) && decide (n ≤ x.f + k) := by
          funext n; rw [Bool.eq_iff_iff]; simp; omega
        rw [e, num_span h1 (by omega) (by omega)]
        omega
    · rename_i hge
      obtain ⟨g1, g2⟩ := nth_some h5 (by omega) hd
      have hdr : x.t + 2 ≤ d := by
        rcases Int.lt_or_le d (x.t + 2) with e | e
        · rw [has_low h5 e] at g1; cases g1
        · exact e
      constructor
      · rw [has_cons, g1]; simp
      · rw [g2]
        have e : (fun n : Int => (decide (x.f ≤ n) && decide (n ≤ x.t)) && (decide (0 ≤ n) && decide (n ≤ d))) = fun n => decide (x.f ≤ n) && decide (n ≤ x.t) := by
          funext n; rw [Bool.eq_iff_iff]; simp; omega
        rw [e, num_span h1 (by omega) h2]
        omega
theorem nth_isSome : ∀ {l : List Sp} {last k : Int}, chkFrom last l = true → 0 ≤ k → (nthL l k).isSome = decide (k < cntL l)
  | [], _, k, _, hk => by
    show false = decide (k < 0)
    rw [decide_eq_false (by omega)]
  | x :: r, last, k, h, hk => by
    obtain ⟨h1, h2, h3, h4, h5⟩ := chk_cons h
    unfold nthL
    have hr : 0 ≤ cntL r := by rw [cnt_num h5]; omega
    have ec : cntL (x :: r) = (x.t - x.f + 1) + cntL r := by simp [cntL]
    split
    · rename_i hlt
      rw [ec]; symm; simp; omega
    · rename_i hge
      rw [nth_isSome h5 (by omega), ec]
      congr 1
      simp; omega
end Go.Proofs.YtccjolaolmpifaaDoor
