/- Sets of days in plain Lean: spans, boundaries, the combination of two sets; no program in sight. -/
namespace Go.Proofs.YtccjolaolmpifaaDoor
set_option linter.unusedSimpArgs false
set_option linter.unusedVariables false

structure Sp where
  f : Int
  t : Int
  deriving Inhabited, DecidableEq

def hasB (l : List Sp) (n : Int) : Bool := l.any fun x => decide (x.f ≤ n) && decide (n ≤ x.t)
/-- Spans behind a day, each two apart. -/
def chkFrom : Int → List Sp → Bool
  | _, [] => true
  | last, x :: r => decide (0 ≤ x.f) && decide (x.f ≤ 73048) && (decide (0 ≤ x.t) && decide (x.t ≤ 73048)) && decide (x.f ≤ x.t) && decide (last + 2 ≤ x.f) && chkFrom x.t r
/-- Canonical lists, without a limit. -/
structure Canon (last : Int) (l : List Sp) : Prop where
  ok : chkFrom last l = true
theorem chk_cons {last : Int} {x : Sp} {r : List Sp} (h : chkFrom last (x :: r) = true) : 0 ≤ x.f ∧ x.t ≤ 73048 ∧ x.f ≤ x.t ∧ last + 2 ≤ x.f ∧ chkFrom x.t r = true := by
  simp only [chkFrom, Bool.and_eq_true, decide_eq_true_eq] at h
  obtain ⟨⟨⟨⟨⟨h1, h2⟩, h3, h4⟩, h5⟩, h6⟩, h7⟩ := h
  exact ⟨h1, h4, h5, h6, h7⟩
theorem chk_mk {last : Int} {x : Sp} {r : List Sp} (h1 : 0 ≤ x.f) (h2 : x.t ≤ 73048) (h3 : x.f ≤ x.t) (h4 : last + 2 ≤ x.f) (h5 : chkFrom x.t r = true) : chkFrom last (x :: r) = true := by
  simp only [chkFrom, Bool.and_eq_true, decide_eq_true_eq]
  exact ⟨⟨⟨⟨⟨h1, by omega⟩, by omega, h2⟩, h3⟩, h4⟩, h5⟩
theorem chk_low : ∀ {l : List Sp} {last : Int}, chkFrom last l = true → ∀ x ∈ l, last + 2 ≤ x.f ∧ 0 ≤ x.f ∧ x.f ≤ x.t ∧ x.t ≤ 73048
  | [], _, _, x, hx => by cases hx
  | y :: r, last, h, x, hx => by
    obtain ⟨h1, h2, h3, h4, h5⟩ := chk_cons h
    rcases List.mem_cons.1 hx with rfl | hx
    · omega
    · have := chk_low h5 x hx; omega
theorem has_low {l : List Sp} {last n : Int} (h : chkFrom last l = true) (hn : n < last + 2) : hasB l n = false := by
  unfold hasB
  rw [List.any_eq_false]
  intro x hx
  have := chk_low h x hx
  simp; omega
theorem has_cons (x : Sp) (r : List Sp) (n : Int) : hasB (x :: r) n = ((decide (x.f ≤ n) && decide (n ≤ x.t)) || hasB r n) := rfl
theorem has_append (l m : List Sp) (n : Int) : hasB (l ++ m) n = (hasB l n || hasB m n) := by unfold hasB; rw [List.any_append]
theorem has_range {l : List Sp} {last n : Int} (h : chkFrom last l = true) (hn : hasB l n = true) : 0 ≤ n ∧ n ≤ 73048 := by
  unfold hasB at hn
  obtain ⟨x, hx, h2⟩ := List.any_eq_true.1 hn
  have := chk_low h x hx
  simp at h2
  omega

/-- Canonical lists with the same days are equal. -/
theorem canon_ext : ∀ {l m : List Sp} {a b : Int}, chkFrom a l = true → chkFrom b m = true → (∀ n, hasB l n = hasB m n) → l = m
  | [], [], _, _, _, _, _ => rfl
  | [], y :: m, a, b, _, hm, h => by
    obtain ⟨h1, h2, h3, h4, h5⟩ := chk_cons hm
    have := h y.f
    rw [has_cons] at this
    simp [hasB, h3] at this
  | x :: l, [], a, b, hl, _, h => by
    obtain ⟨h1, h2, h3, h4, h5⟩ := chk_cons hl
    have := h x.f
    rw [has_cons] at this
    simp [hasB, h3] at this
  | x :: l, y :: m, a, b, hl, hm, h => by
    obtain ⟨h1, h2, h3, h4, h5⟩ := chk_cons hl
    obtain ⟨k1, k2, k3, k4, k5⟩ := chk_cons hm
    have hx : ∀ n, hasB (x :: l) n = true → x.f ≤ n := fun n hn => by
      rw [has_cons] at hn
      simp only [Bool.or_eq_true, Bool.and_eq_true, decide_eq_true_eq] at hn
      rcases hn with hn | hn
      · exact hn.1
      · unfold hasB at hn
        obtain ⟨z, hz, hz2⟩ := List.any_eq_true.1 hn
        have := chk_low h5 z hz
        simp at hz2; omega
    have hy : ∀ n, hasB (y :: m) n = true → y.f ≤ n := fun n hn => by
      rw [has_cons] at hn
      simp only [Bool.or_eq_true, Bool.and_eq_true, decide_eq_true_eq] at hn
      rcases hn with hn | hn
      · exact hn.1
      · unfold hasB at hn
        obtain ⟨z, hz, hz2⟩ := List.any_eq_true.1 hn
        have := chk_low k5 z hz
        simp at hz2; omega
    have ef : x.f = y.f := by
      have e1 := hy x.f (by rw [← h, has_cons]; simp [h3])
      have e2 := hx y.f (by rw [h, has_cons]; simp [k3])
      omega
    have et : x.t = y.t := by
      rcases Int.lt_trichotomy x.t y.t with e | e | e
      · have e1 := h (x.t + 1)
        rw [has_cons, has_cons, has_low h5 (by omega), decide_eq_false (show ¬ x.t + 1 ≤ x.t by omega), decide_eq_true (show y.f ≤ x.t + 1 by omega), decide_eq_true (show x.t + 1 ≤ y.t by omega), Bool.and_false] at e1
        cases e1
      · exact e
      · have e1 := h (y.t + 1)
        rw [has_cons, has_cons, has_low k5 (by omega), decide_eq_false (show ¬ y.t + 1 ≤ y.t by omega), decide_eq_true (show x.f ≤ y.t + 1 by omega), decide_eq_true (show y.t + 1 ≤ x.t by omega), Bool.and_false] at e1
        cases e1
    have exy : x = y := by cases x; cases y; simp_all
    subst exy
    have := canon_ext (l := l) (m := m) h5 k5 (fun n => by
      by_cases hn : n < x.t + 2
      · rw [has_low h5 hn, has_low k5 hn]
      · have := h n
        rw [has_cons, has_cons] at this
        have e : decide (n ≤ x.t) = false := by simp; omega
        rwa [e, Bool.and_false, Bool.false_or, Bool.false_or] at this)
    rw [this]

/-! ### Boundaries -/
def endsL (l : List Sp) : List Int := l.flatMap fun x => [x.f, x.t + 1]
theorem ends_mem {l : List Sp} {n : Int} : n ∈ endsL l ↔ ∃ x ∈ l, n = x.f ∨ n = x.t + 1 := by
  unfold endsL
  simp [List.mem_flatMap]
/-- Between neighbouring boundaries nothing turns. -/
theorem has_const {l : List Sp} {u v : Int} (h : ∀ n ∈ endsL l, n ≤ u ∨ v ≤ n) {n : Int} (h1 : u ≤ n) (h2 : n < v) : hasB l n = hasB l u := by
  unfold hasB
  have key : ∀ x ∈ l, (decide (x.f ≤ n) && decide (n ≤ x.t)) = (decide (x.f ≤ u) && decide (u ≤ x.t)) := fun x hx => by
    have e1 := h x.f (ends_mem.2 ⟨x, hx, .inl rfl⟩)
    have e2 := h (x.t + 1) (ends_mem.2 ⟨x, hx, .inr rfl⟩)
    have a1 : (x.f ≤ n) ↔ (x.f ≤ u) := by omega
    have a2 : (n ≤ x.t) ↔ (u ≤ x.t) := by omega
    simp only [a1, a2]
  clear h h1 h2
  induction l with
  | nil => rfl
  | cons x r ih =>
    rw [List.any_cons, List.any_cons, key x (by simp), ih (fun y hy => key y (by simp [hy]))]
theorem has_before {l : List Sp} {u : Int} (h : ∀ n ∈ endsL l, u ≤ n) {n : Int} (hn : n < u) : hasB l n = false := by
  unfold hasB
  rw [List.any_eq_false]
  intro x hx
  have e1 := h x.f (ends_mem.2 ⟨x, hx, .inl rfl⟩)
  simp; omega
theorem has_behind {l : List Sp} {u : Int} (h : ∀ n ∈ endsL l, n ≤ u) {n : Int} (hn : u ≤ n) : hasB l n = false := by
  unfold hasB
  rw [List.any_eq_false]
  intro x hx
  have e1 := h (x.t + 1) (ends_mem.2 ⟨x, hx, .inr rfl⟩)
  simp; omega

/-! ### Combination -/
def setTo (l : List Sp) (n : Int) : List Sp := match l.reverse with
  | [] => []
  | x :: r => (⟨x.f, n⟩ :: r).reverse
theorem setTo_append (l : List Sp) (x : Sp) (n : Int) : setTo (l ++ [x]) n = l ++ [⟨x.f, n⟩] := by
  unfold setTo
  simp
/-- What the program's loop over the boundaries does. -/
def cmbStep (p : Int → Bool) (s : Bool × List Sp) (n : Int) : Bool × List Sp :=
  if p n && !s.1 then (true, s.2 ++ [⟨n, n⟩]) else if !p n && s.1 then (false, setTo s.2 (n - 1)) else s
def cmb (p : Int → Bool) (at' : List Int) : Bool × List Sp := at'.foldl (cmbStep p) (false, [])
/-- What the reference does with an interval. -/
def refStep (p : Int → Bool) (l : List Sp) (u v : Int) : List Sp :=
  if p u then (match l.reverse with
    | [] => l ++ [⟨u, v - 1⟩]
    | x :: _ => if x.t + 1 = u then setTo l (v - 1) else l ++ [⟨u, v - 1⟩]) else l
def refFrom (p : Int → Bool) : List Sp → List Int → List Sp
  | l, u :: v :: r => refFrom p (refStep p l u v) (v :: r)
  | l, _ => l
def refL (p : Int → Bool) (at' : List Int) : List Sp := refFrom p [] at'

/-- Strictly increasing. -/
def upB : List Int → Prop
  | u :: v :: r => u < v ∧ upB (v :: r)
  | _ => True
/-- How the program's and the reference's lists stand to each other before a boundary. -/
structure Pace (p : Int → Bool) (u : Int) (o : Bool) (l out : List Sp) : Prop where
  eq : out = if o then setTo l (u - 1) else l
  ne : o = true → ∃ k x, l = k ++ [x]
  last : o = false → ∀ x k, l = k ++ [x] → x.t + 1 < u
theorem pace_step {p : Int → Bool} {u v : Int} {o : Bool} {l out : List Sp} (h : Pace p u o l out) (hv : u < v) : Pace p v (cmbStep p (o, l) u).1 (cmbStep p (o, l) u).2 (refStep p out u v) := by
  unfold cmbStep refStep
  cases o with
  | true =>
    obtain ⟨k, x, rfl⟩ := h.ne rfl
    have e := h.eq
    rw [if_pos rfl, setTo_append] at e
    subst e
    cases hp : p u with
    | true =>
      simp only [Bool.not_true, Bool.and_false, Bool.false_eq_true, if_false, Bool.false_and, if_true, List.reverse_append, List.reverse_cons, List.reverse_nil, List.nil_append, List.singleton_append]
      rw [if_pos (by omega), setTo_append]
      exact ⟨by rw [if_pos rfl, setTo_append], fun _ => ⟨k, x, rfl⟩, fun h => (by cases h)⟩
    | false =>
      simp only [Bool.not_true, Bool.and_false, Bool.false_eq_true, if_false, Bool.not_false, Bool.true_and, if_true, Bool.and_self]
      rw [setTo_append]
      exact ⟨rfl, fun h => (by cases h), fun _ y k' hy => by
        have := List.append_inj' hy rfl
        simp only [List.cons.injEq, and_true] at this
        rw [← this.2]; simp only; omega⟩
  | false =>
    have e := h.eq
    rw [if_neg (by decide)] at e
    subst e
    cases hp : p u with
    | true =>
      simp only [Bool.not_false, Bool.and_self, if_true]
      have hg : (match out.reverse with
        | [] => out ++ [⟨u, v - 1⟩]
        | x :: _ => if x.t + 1 = u then setTo out (v - 1) else out ++ [⟨u, v - 1⟩]) = out ++ [(⟨u, v - 1⟩ : Sp)] := by
        cases hr : out.reverse with
        | nil => rfl
        | cons x r =>
          have ho : out = r.reverse ++ [x] := by rw [← List.reverse_reverse out, hr]; simp
          have := h.last rfl x _ ho
          simp only
          rw [if_neg (by omega)]
      rw [hg]
      exact ⟨by rw [if_pos rfl, setTo_append], fun _ => ⟨out, _, rfl⟩, fun h => (by cases h)⟩
    | false =>
      simp only [Bool.not_false, Bool.and_true, Bool.false_eq_true, if_false, Bool.and_false]
      exact ⟨rfl, fun h => (by cases h), fun _ x k hx => by have := h.last rfl x k hx; omega⟩
theorem pace_all {p : Int → Bool} : ∀ (r : List Int) (u : Int) (o : Bool) (l out : List Sp), Pace p u o l out → upB (u :: r) → p ((u :: r).getLast (by simp)) = false → ((u :: r).foldl (cmbStep p) (o, l)) = (false, refFrom p out (u :: r))
  | [], u, o, l, out, h, _, hp => by
    simp only [List.getLast_singleton] at hp
    show cmbStep p (o, l) u = (false, out)
    unfold cmbStep
    rw [hp, h.eq]
    cases o <;> rfl
  | v :: r, u, o, l, out, h, hu, hp => by
    have := pace_all r v _ _ _ (pace_step h hu.1) hu.2 (by rwa [List.getLast_cons (by simp)] at hp)
    show (v :: r).foldl (cmbStep p) (cmbStep p (o, l) u) = _
    rw [show cmbStep p (o, l) u = ((cmbStep p (o, l) u).1, (cmbStep p (o, l) u).2) from rfl, this]
    rfl
/-- The program's list is the reference's. -/
theorem cmb_ref {p : Int → Bool} {L : List Int} (hu : upB L) (hp : ∀ x, L.getLast? = some x → p x = false) : cmb p L = (false, refL p L) := by
  cases L with
  | nil => rfl
  | cons u r => exact pace_all r u false [] [] ⟨rfl, fun h => (by cases h), fun _ x k h => by simp at h⟩ hu (hp _ (List.getLast?_eq_some_getLast (by simp)))
end Go.Proofs.YtccjolaolmpifaaDoor
