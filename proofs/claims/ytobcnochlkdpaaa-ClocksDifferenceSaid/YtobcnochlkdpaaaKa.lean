/- Facts with two clocks in plain Lean: what is said in an hour, histories, changes; no program in sight. -/
namespace Go.Proofs.Ytobcnochlkdpaaa
set_option linter.unusedSimpArgs false
set_option linter.unusedVariables false

structure Fc where
  no : Int
  key : Int
  val : Int
  frm : Int
  to : Int
  kn : Int
  deriving Inhabited, DecidableEq
/-- What is said in an hour. -/
structure An where
  v : Int
  k : Bool
  deriving Inhabited, DecidableEq
/-- Hours. -/
structure Rg where
  lo : Int
  hi : Int
  deriving Inhabited, DecidableEq
/-- A part of a history. -/
structure Er where
  r : Rg
  v : Int
  k : Bool
  deriving Inhabited, DecidableEq

def inR (n lo hi : Int) : Bool := decide (lo ≤ n) && decide (n ≤ hi)
/-- A fact is right, apart from its number. -/
def rightF (x : Fc) : Bool := inR x.no 0 1048576 && inR x.key 0 1048576 && inR x.val (-1073741824) 1073741824 && decide (0 ≤ x.frm) && decide (x.frm ≤ x.to) && decide (x.to ≤ 4096) && inR x.kn 0 4096
def okF : Int → List Fc → Bool
  | _, [] => true
  | last, x :: r => decide (last < x.no) && rightF x && okF x.no r
def checkF (l : List Fc) : Int := if (512 : Int) < l.length then 2 else if okF (-1) l then 0 else 550
theorem rightF_iff {x : Fc} : rightF x = true ↔ (0 ≤ x.no ∧ x.no ≤ 1048576) ∧ (0 ≤ x.key ∧ x.key ≤ 1048576) ∧ (-1073741824 ≤ x.val ∧ x.val ≤ 1073741824) ∧ 0 ≤ x.frm ∧ x.frm ≤ x.to ∧ x.to ≤ 4096 ∧ 0 ≤ x.kn ∧ x.kn ≤ 4096 := by
  simp only [rightF, inR, Bool.and_eq_true, decide_eq_true_eq]
  omega
theorem okF_cons {last : Int} {x : Fc} {r : List Fc} : okF last (x :: r) = true ↔ last < x.no ∧ rightF x = true ∧ okF x.no r = true := by
  simp only [okF, Bool.and_eq_true, decide_eq_true_eq]
  exact ⟨fun h => ⟨h.1.1, h.1.2, h.2⟩, fun h => ⟨⟨h.1, h.2.1⟩, h.2.2⟩⟩
theorem okF_low {last last' : Int} {l : List Fc} (h : okF last l = true) (hl : last' ≤ last) : okF last' l = true := by
  cases l with
  | nil => rfl
  | cons x r => rw [okF_cons] at h ⊢; exact ⟨by omega, h.2⟩
theorem okF_iff : ∀ {l : List Fc} {last : Int}, okF last l = true ↔ (∀ x ∈ l, last < x.no ∧ rightF x = true) ∧ l.Pairwise (fun x y => x.no < y.no)
  | [], _ => by simp [okF]
  | x :: r, last => by
    rw [okF_cons, okF_iff (l := r), List.pairwise_cons]
    constructor
    · rintro ⟨h1, h2, h3, h4⟩
      refine ⟨fun y hy => ?_, fun y hy => (h3 y hy).1, h4⟩
      rcases List.mem_cons.1 hy with rfl | hy
      · exact ⟨h1, h2⟩
      · have := h3 y hy; exact ⟨by omega, this.2⟩
    · rintro ⟨h1, h2, h3⟩
      have := h1 x (by simp)
      exact ⟨this.1, this.2, fun y hy => ⟨h2 y hy, (h1 y (by simp [hy])).2⟩, h3⟩
theorem check_zero {l : List Fc} : checkF l = 0 ↔ l.length ≤ 512 ∧ okF (-1) l = true := by
  unfold checkF
  split
  · constructor
    · intro h; exact absurd h (by decide)
    · intro h; omega
  · split
    · rename_i h; exact ⟨fun _ => ⟨by omega, h⟩, fun _ => rfl⟩
    · rename_i h; exact ⟨fun e => absurd e (by decide), fun e => absurd e.2 h⟩

/-! What is said. -/
def fitsB (key h known : Int) (x : Fc) : Bool := decide (x.key = key) && inR h x.frm x.to && decide (x.kn ≤ known)
def sayStep (key h known : Int) (s : Int × An) (x : Fc) : Int × An := if fitsB key h known x && decide (s.1 ≤ x.kn) then (x.kn, ⟨x.val, true⟩) else s
def sayS (l : List Fc) (key h known : Int) : Int × An := l.foldl (sayStep key h known) (-1, ⟨0, false⟩)
def sayL (l : List Fc) (key h known : Int) : An := (sayS l key h known).2
theorem say_take {l : List Fc} {k : Nat} {x : Fc} (hx : l[k]? = some x) (key h known : Int) : sayS (l.take (k + 1)) key h known = sayStep key h known (sayS (l.take k) key h known) x := by
  unfold sayS; rw [List.take_add_one, hx, List.foldl_append]; rfl
theorem say_append (l m : List Fc) (key h known : Int) : sayS (l ++ m) key h known = m.foldl (sayStep key h known) (sayS l key h known) := by
  unfold sayS; rw [List.foldl_append]
/-- Hours between which no fact of the key begins or ends say the same. -/
theorem say_const {l : List Fc} {key u n known : Int} (h : ∀ x ∈ l, x.key = key → inR u x.frm x.to = inR n x.frm x.to) : sayL l key u known = sayL l key n known := by
  unfold sayL sayS
  have key' : ∀ (l : List Fc) (s : Int × An), (∀ x ∈ l, x.key = key → inR u x.frm x.to = inR n x.frm x.to) → l.foldl (sayStep key u known) s = l.foldl (sayStep key n known) s := by
    intro l
    induction l with
    | nil => intro s _; rfl
    | cons x r ih =>
      intro s h
      have hx : sayStep key u known s x = sayStep key n known s x := by
        unfold sayStep fitsB
        by_cases hk : x.key = key
        · rw [h x (by simp) hk]
        · rw [decide_eq_false hk]; simp
      rw [List.foldl_cons, List.foldl_cons, hx]
      exact ih _ fun y hy => h y (by simp [hy])
  rw [key' l _ h]
/-- Values are bounded. -/
theorem say_bound {l : List Fc} (hl : ∀ x ∈ l, rightF x = true) (key h known : Int) : (-1073741824 ≤ (sayL l key h known).v ∧ (sayL l key h known).v ≤ 1073741824) ∧ ((sayL l key h known).k = false → (sayL l key h known).v = 0) := by
  unfold sayL sayS
  have key' : ∀ (l : List Fc) (s : Int × An), (∀ x ∈ l, rightF x = true) → ((-1073741824 ≤ s.2.v ∧ s.2.v ≤ 1073741824) ∧ (s.2.k = false → s.2.v = 0)) → ((-1073741824 ≤ (l.foldl (sayStep key h known) s).2.v ∧ (l.foldl (sayStep key h known) s).2.v ≤ 1073741824) ∧ ((l.foldl (sayStep key h known) s).2.k = false → (l.foldl (sayStep key h known) s).2.v = 0)) := by
    intro l
    induction l with
    | nil => intro s _ hs; exact hs
    | cons x r ih =>
      intro s hr hs
      rw [List.foldl_cons]
      refine ih _ (fun y hy => hr y (by simp [hy])) ?_
      unfold sayStep
      split
      · have := rightF_iff.1 (hr x (by simp))
        exact ⟨this.2.2.1, fun e => by cases e⟩
      · exact hs
  exact key' l _ hl ⟨⟨by decide, by decide⟩, fun _ => rfl⟩
/-- The number before which what has been met was known. -/
theorem say_last {l : List Fc} (hl : ∀ x ∈ l, rightF x = true) (key h known : Int) : -1 ≤ (sayS l key h known).1 ∧ (sayS l key h known).1 ≤ 4096 ∧ ((sayS l key h known).2.k = false → (sayS l key h known).1 = -1 ∧ (sayS l key h known).2.v = 0) := by
  unfold sayS
  have key' : ∀ (l : List Fc) (s : Int × An), (∀ x ∈ l, rightF x = true) → (-1 ≤ s.1 ∧ s.1 ≤ 4096 ∧ (s.2.k = false → s.1 = -1 ∧ s.2.v = 0)) → (-1 ≤ (l.foldl (sayStep key h known) s).1 ∧ (l.foldl (sayStep key h known) s).1 ≤ 4096 ∧ ((l.foldl (sayStep key h known) s).2.k = false → (l.foldl (sayStep key h known) s).1 = -1 ∧ (l.foldl (sayStep key h known) s).2.v = 0)) := by
    intro l
    induction l with
    | nil => intro s _ hs; exact hs
    | cons x r ih =>
      intro s hr hs
      rw [List.foldl_cons]
      refine ih _ (fun y hy => hr y (by simp [hy])) ?_
      unfold sayStep
      split
      · have := rightF_iff.1 (hr x (by simp))
        exact ⟨by dsimp only; omega, by dsimp only; omega, fun e => by cases e⟩
      · exact hs
  exact key' l _ hl ⟨by decide, by decide, fun _ => ⟨rfl, rfl⟩⟩

/-! Histories. -/
def erPut (s : List Er) (r : Rg) (a : An) : List Er := match s.reverse with
  | [] => [⟨r, a.v, a.k⟩]
  | x :: q => if x.v = a.v ∧ x.k = a.k then (⟨⟨x.r.lo, r.hi⟩, x.v, x.k⟩ :: q).reverse else s ++ [⟨r, a.v, a.k⟩]
def chPut (s : List Rg) (r : Rg) (d : Bool) : List Rg := if d then (match s.reverse with
  | [] => [r]
  | x :: q => if x.hi + 1 = r.lo then (⟨x.lo, r.hi⟩ :: q).reverse else s ++ [r]) else s
theorem erPut_nil (r : Rg) (a : An) : erPut [] r a = [⟨r, a.v, a.k⟩] := rfl
theorem erPut_snoc (s : List Er) (x : Er) (r : Rg) (a : An) : erPut (s ++ [x]) r a = if x.v = a.v ∧ x.k = a.k then s ++ [⟨⟨x.r.lo, r.hi⟩, x.v, x.k⟩] else s ++ [x] ++ [⟨r, a.v, a.k⟩] := by
  unfold erPut; simp
theorem chPut_nil (r : Rg) (d : Bool) : chPut [] r d = if d then [r] else [] := rfl
theorem chPut_snoc (s : List Rg) (x r : Rg) (d : Bool) : chPut (s ++ [x]) r d = if d then (if x.hi + 1 = r.lo then s ++ [⟨x.lo, r.hi⟩] else s ++ [x] ++ [r]) else s ++ [x] := by
  unfold chPut; simp
theorem snoc_or {α : Type} (l : List α) : l = [] ∨ ∃ k x, l = k ++ [x] := by
  rcases List.eq_nil_or_concat l with h | ⟨k, x, h⟩
  · exact .inl h
  · exact .inr ⟨k, x, by simpa using h⟩
theorem erPut_two (s : List Er) (lo h h2 h3 : Int) (a : An) : erPut (erPut s ⟨lo, h⟩ a) ⟨h2, h3⟩ a = erPut s ⟨lo, h3⟩ a := by
  rcases snoc_or s with rfl | ⟨q, x, rfl⟩
  · rw [erPut_nil, erPut_nil, show [(⟨⟨lo, h⟩, a.v, a.k⟩ : Er)] = [] ++ [⟨⟨lo, h⟩, a.v, a.k⟩] from rfl, erPut_snoc, if_pos ⟨rfl, rfl⟩]; rfl
  · rw [erPut_snoc, erPut_snoc]
    split
    · rename_i hx; rw [erPut_snoc, if_pos hx]
    · rw [erPut_snoc, if_pos ⟨rfl, rfl⟩]
theorem chPut_two (s : List Rg) (lo h h3 : Int) (d : Bool) : chPut (chPut s ⟨lo, h⟩ d) ⟨h + 1, h3⟩ d = chPut s ⟨lo, h3⟩ d := by
  cases d with
  | false => rfl
  | true =>
    rcases snoc_or s with rfl | ⟨q, x, rfl⟩
    · rw [chPut_nil, chPut_nil, if_pos rfl, if_pos rfl, show [(⟨lo, h⟩ : Rg)] = [] ++ [⟨lo, h⟩] from rfl, chPut_snoc, if_pos rfl, if_pos rfl]; rfl
    · rw [chPut_snoc, chPut_snoc, if_pos rfl, if_pos rfl]
      dsimp only
      split
      · rw [chPut_snoc, if_pos rfl, if_pos rfl]
      · rw [chPut_snoc, if_pos rfl, if_pos rfl]
/-- Hours, one by one. -/
def hours (lo : Int) : Nat → List Int
  | 0 => []
  | n + 1 => lo :: hours (lo + 1) n
theorem hours_snoc (lo : Int) (n : Nat) : hours lo (n + 1) = hours lo n ++ [lo + n] := by
  induction n generalizing lo with
  | zero => simp [hours]
  | succ n ih =>
    rw [show hours lo (n + 1 + 1) = lo :: hours (lo + 1) (n + 1) from rfl, ih (lo + 1)]
    rw [show hours lo (n + 1) = lo :: hours (lo + 1) n from rfl, List.cons_append, show lo + 1 + (n : Int) = lo + ((n + 1 : Nat) : Int) by omega]
theorem hours_mem {lo h : Int} {n : Nat} : h ∈ hours lo n ↔ lo ≤ h ∧ h < lo + n := by
  induction n generalizing lo with
  | zero => simp [hours] <;> omega
  | succ n ih => rw [hours, List.mem_cons, ih]; omega
theorem hours_add (lo : Int) (n m : Nat) : hours lo (n + m) = hours lo n ++ hours (lo + n) m := by
  induction n generalizing lo with
  | zero => simp [hours]
  | succ n ih =>
    rw [show n + 1 + m = (n + m) + 1 by omega, hours, ih (lo + 1), hours, List.cons_append, show lo + 1 + (n : Int) = lo + ((n + 1 : Nat) : Int) by omega]
def erasH (f : Int → An) (s : List Er) (L : List Int) : List Er := L.foldl (fun s h => erPut s ⟨h, h⟩ (f h)) s
def erasP (f : Int → An) (s : List Er) (P : List Rg) : List Er := P.foldl (fun s p => erPut s p (f p.lo)) s
def chgH (d : Int → Bool) (s : List Rg) (L : List Int) : List Rg := L.foldl (fun s h => chPut s ⟨h, h⟩ (d h)) s
def chgP (d : Int → Bool) (s : List Rg) (P : List Rg) : List Rg := P.foldl (fun s p => chPut s p (d p.lo)) s
theorem eras_one (f : Int → An) (s : List Er) (lo : Int) : ∀ n : Nat, (∀ h, lo ≤ h → h ≤ lo + n → f h = f lo) → erasH f s (hours lo (n + 1)) = erPut s ⟨lo, lo + n⟩ (f lo)
  | 0, _ => by simp [erasH, hours]
  | n + 1, h => by
    rw [hours_snoc]
    unfold erasH
    rw [List.foldl_append]
    have ih := eras_one f s lo n fun x h1 h2 => h x h1 (by omega)
    unfold erasH at ih
    rw [ih, List.foldl_cons, List.foldl_nil, h (lo + ((n + 1 : Nat) : Int)) (by omega) (by omega), erPut_two]
theorem chg_one (d : Int → Bool) (s : List Rg) (lo : Int) : ∀ n : Nat, (∀ h, lo ≤ h → h ≤ lo + n → d h = d lo) → chgH d s (hours lo (n + 1)) = chPut s ⟨lo, lo + n⟩ (d lo)
  | 0, _ => by simp [chgH, hours]
  | n + 1, h => by
    rw [hours_snoc]
    unfold chgH
    rw [List.foldl_append]
    have ih := chg_one d s lo n fun x h1 h2 => h x h1 (by omega)
    unfold chgH at ih
    rw [ih, List.foldl_cons, List.foldl_nil, h (lo + ((n + 1 : Nat) : Int)) (by omega) (by omega), show lo + ((n + 1 : Nat) : Int) = lo + n + 1 by omega, chPut_two]
/-- The parts that begin at some hours. -/
def partsL : List Int → Int → List Rg
  | [], _ => []
  | [u], hi => [⟨u, hi⟩]
  | u :: v :: r, hi => ⟨u, v - 1⟩ :: partsL (v :: r) hi
/-- In each part nothing changes. -/
def Flat {α : Type} (f : Int → α) : List Int → Int → Prop
  | [], _ => True
  | [u], hi => u ≤ hi ∧ ∀ n, u ≤ n → n ≤ hi → f n = f u
  | u :: v :: r, hi => u < v ∧ (∀ n, u ≤ n → n < v → f n = f u) ∧ Flat f (v :: r) hi
theorem flat_last {α : Type} {f : Int → α} : ∀ {r : List Int} {u hi : Int}, Flat f (u :: r) hi → u ≤ hi
  | [], _, _, h => h.1
  | v :: r, u, hi, h => by have := flat_last h.2.2; have := h.1; omega
theorem eras_parts {f : Int → An} : ∀ {r : List Int} {u hi : Int} (s : List Er), Flat f (u :: r) hi → erasP f s (partsL (u :: r) hi) = erasH f s (hours u (hi + 1 - u).toNat)
  | [], u, hi, s, h => by
    obtain ⟨h1, h2⟩ := h
    obtain ⟨n, hn⟩ : ∃ n : Nat, hi = u + n := ⟨(hi - u).toNat, by omega⟩
    subst hn
    rw [show (u + (n : Int) + 1 - u).toNat = n + 1 by omega, eras_one f s u n fun x h3 h4 => h2 x h3 h4]
    rfl
  | v :: r, u, hi, s, h => by
    obtain ⟨h1, h2, h3⟩ := h
    have hv := flat_last h3
    obtain ⟨n, hn⟩ : ∃ n : Nat, v = u + n + 1 := ⟨(v - u - 1).toNat, by omega⟩
    have e := eras_one f s u n fun x h3 h4 => h2 x h3 (by omega)
    rw [show (hi + 1 - u).toNat = (n + 1) + (hi + 1 - v).toNat by omega, hours_add]
    unfold erasH
    rw [List.foldl_append]
    unfold erasH at e
    rw [e, show u + ((n + 1 : Nat) : Int) = v by omega]
    show erasP f (erPut s ⟨u, v - 1⟩ (f u)) (partsL (v :: r) hi) = _
    rw [eras_parts _ h3, show u + (n : Int) = v - 1 by omega]
    rfl
theorem chg_parts {d : Int → Bool} : ∀ {r : List Int} {u hi : Int} (s : List Rg), Flat d (u :: r) hi → chgP d s (partsL (u :: r) hi) = chgH d s (hours u (hi + 1 - u).toNat)
  | [], u, hi, s, h => by
    obtain ⟨h1, h2⟩ := h
    obtain ⟨n, hn⟩ : ∃ n : Nat, hi = u + n := ⟨(hi - u).toNat, by omega⟩
    subst hn
    rw [show (u + (n : Int) + 1 - u).toNat = n + 1 by omega, chg_one d s u n fun x h3 h4 => h2 x h3 h4]
    rfl
  | v :: r, u, hi, s, h => by
    obtain ⟨h1, h2, h3⟩ := h
    have hv := flat_last h3
    obtain ⟨n, hn⟩ : ∃ n : Nat, v = u + n + 1 := ⟨(v - u - 1).toNat, by omega⟩
    have e := chg_one d s u n fun x h3 h4 => h2 x h3 (by omega)
    rw [show (hi + 1 - u).toNat = (n + 1) + (hi + 1 - v).toNat by omega, hours_add]
    unfold chgH
    rw [List.foldl_append]
    unfold chgH at e
    rw [e, show u + ((n + 1 : Nat) : Int) = v by omega]
    show chgP d (chPut s ⟨u, v - 1⟩ (d u)) (partsL (v :: r) hi) = _
    rw [chg_parts _ h3, show u + (n : Int) = v - 1 by omega]
    rfl
end Go.Proofs.Ytobcnochlkdpaaa
