/- Pleas in plain Lean: clauses, what is strict, on, off, proved, refuted; no program in sight. -/
namespace Go.Proofs.Ythdgmimhaidmnaa
set_option linter.unusedSimpArgs false
set_option linter.unusedVariables false

structure Cl where
  no : Int
  thn : Int
  rank : Int
  strict : Bool
  ifs : List Int
  deriving Inhabited, DecidableEq

structure Pl where
  facts : List Int
  clauses : List Cl
  deriving Inhabited, DecidableEq

structure Rs where
  lit : Int
  clause : Int
  proved : Bool
  deriving Inhabited, DecidableEq

/-- From index k on: the index of the first element that satisfies p; -1 if there is none. -/
def idxFrom {α : Type} (p : α → Bool) : List α → Nat → Int
  | [], _ => -1
  | x :: r, k => if p x then (k : Int) else idxFrom p r (k + 1)

/-- What is known of a literal: 0 nothing, 1 proved, 2 refuted. -/
abbrev Known := Int → Int

def onB (K : Known) (c : Cl) : Bool := !c.ifs.any fun q => K q != 1
def offB (K : Known) (c : Cl) : Bool := c.ifs.any fun q => K q == 2
def someB (p : Pl) (q : Int) (f : Cl → Bool) : Bool := p.clauses.any fun c => c.thn == q && f c

def provesB (p : Pl) (S : Int → Bool) (K : Known) (q : Int) : Bool :=
  if S q then true
  else if S (-q) || !someB p q (onB K) then false
  else !someB p (-q) fun s => !offB K s && !someB p q fun c => onB K c && decide (s.rank < c.rank)

def refutesB (p : Pl) (S : Int → Bool) (K : Known) (q : Int) : Bool :=
  !S q && (S (-q) || (!someB p q fun c => !offB K c) || someB p (-q) fun s => onB K s && !someB p q fun c => !offB K c && decide (s.rank < c.rank))


/-- The next strict literal: of the first strict clause whose literal is not yet there, and whose conditions are. -/
def strictNext (p : Pl) (l : List Int) : Option Cl := p.clauses.find? fun c => c.strict && !l.contains c.thn && !c.ifs.any fun q => !l.contains q

def strictL (p : Pl) : Nat → List Int
  | 0 => p.facts
  | n + 1 => match strictNext p (strictL p n) with
    | some c => strictL p n ++ [c.thn]
    | none => strictL p n

def strictOf (p : Pl) : List Int := strictL p p.clauses.length

theorem strictL_next {p : Pl} {n : Nat} {c : Cl} (h : strictNext p (strictL p n) = some c) : strictL p (n + 1) = strictL p n ++ [c.thn] := by
  simp [strictL, h]

/-- How many clauses have a literal that is not there. -/
def strictLeft (p : Pl) (l : List Int) : Nat := p.clauses.countP fun c => !l.contains c.thn

theorem strictLeft_next {p : Pl} {l : List Int} {c : Cl} (h : strictNext p l = some c) : strictLeft p (l ++ [c.thn]) < strictLeft p l := by
  unfold strictNext at h
  have hc := List.find?_some h
  have hm := List.mem_of_find?_eq_some h
  simp only [Bool.and_eq_true, Bool.not_eq_true'] at hc
  unfold strictLeft
  have key : ∀ (cs : List Cl), c ∈ cs → cs.countP (fun d => !(l ++ [c.thn]).contains d.thn) + 1 ≤ cs.countP (fun d => !l.contains d.thn) := by
    intro cs
    induction cs with
    | nil => intro h; cases h
    | cons d r ih =>
      intro hcd
      have mono : r.countP (fun d => !(l ++ [c.thn]).contains d.thn) ≤ r.countP (fun d => !l.contains d.thn) :=
        List.countP_mono_left (fun x _ hx => by
          simp only [List.contains_eq_mem, List.mem_append, List.mem_singleton, Bool.not_eq_true', decide_eq_false_iff_not, not_or] at hx ⊢
          exact hx.1)
      rw [List.countP_cons, List.countP_cons]
      rcases List.mem_cons.1 hcd with rfl | hr
      · rw [if_neg (by simp), if_pos (by simpa using hc.1.2)]
        omega
      · have := ih hr
        have h2 : (if (!(l ++ [c.thn]).contains d.thn) = true then 1 else 0) ≤ (if (!l.contains d.thn) = true then 1 else 0) := by
          split
          · rename_i hx
            rw [if_pos]
            · exact Nat.le_refl _
            · simp only [List.contains_eq_mem, List.mem_append, List.mem_singleton, Bool.not_eq_true', decide_eq_false_iff_not, not_or] at hx ⊢
              exact hx.1
          · omega
        omega
  exact key _ hm

theorem strictL_stays {p : Pl} {n : Nat} (h : strictNext p (strictL p n) = none) : ∀ m, strictL p (n + m) = strictL p n
  | 0 => rfl
  | m + 1 => by
    have ih := strictL_stays h m
    show (match strictNext p (strictL p (n + m)) with | some c => strictL p (n + m) ++ [c.thn] | none => strictL p (n + m)) = _
    rw [ih, h]

theorem strictL_left (p : Pl) : ∀ n, (∀ m, m < n → strictNext p (strictL p m) ≠ none) → strictLeft p (strictL p n) + n ≤ p.clauses.length
  | 0, _ => by unfold strictLeft; simpa using List.countP_le_length
  | n + 1, h => by
    have ih := strictL_left p n (fun m hm => h m (by omega))
    cases hn : strictNext p (strictL p n) with
    | none => exact absurd hn (h n (by omega))
    | some c =>
      have := strictLeft_next hn
      rw [strictL_next hn]
      omega

/-- What the loop ends with is the list of the strict literals. -/
theorem strictOf_eq {p : Pl} {n : Nat} (h : strictNext p (strictL p n) = none) (hs : ∀ m, m < n → strictNext p (strictL p m) ≠ none) : strictL p n = strictOf p := by
  have := strictL_left p n hs
  obtain ⟨m, hm⟩ : ∃ m, p.clauses.length = n + m := ⟨p.clauses.length - n, by omega⟩
  unfold strictOf
  rw [hm, strictL_stays h]

theorem strictOf_closed (p : Pl) : strictNext p (strictOf p) = none := by
  unfold strictOf
  generalize hN : p.clauses.length = N
  cases hc : strictNext p (strictL p N) with
  | none => rfl
  | some c =>
    exfalso
    have hall : ∀ m, m < N → strictNext p (strictL p m) ≠ none := by
      intro m hm hnone
      have := strictL_stays hnone (N - m)
      rw [show m + (N - m) = N from by omega] at this
      rw [this, hnone] at hc
      cases hc
    have h1 := strictL_left p N hall
    have h2 := strictLeft_next hc
    omega


def litB (q : Int) : Bool := decide (-32 ≤ q) && decide (q ≤ 32) && q != 0

def risingFrom : Option Int → List Int → Bool
  | _, [] => true
  | prev, x :: r => litB x && (match prev with | none => true | some y => decide (y < x)) && risingFrom (some x) r

def risingB (l : List Int) : Bool := risingFrom none l

theorem rising_zero (l : List Int) (h : 0 < l.length) : risingFrom none (l.drop 0) = (litB (l[0]?.getD 0) && risingFrom (some (l[0]?.getD 0)) (l.drop (0 + 1))) := by
  rw [List.drop_eq_getElem_cons h]; simp [risingFrom, h]
theorem rising_succ (l : List Int) (y : Int) (k : Nat) (h : k < l.length) : risingFrom (some y) (l.drop k) = (litB (l[k]?.getD 0) && decide (y < l[k]?.getD 0) && risingFrom (some (l[k]?.getD 0)) (l.drop (k + 1))) := by
  rw [List.drop_eq_getElem_cons h]; simp [risingFrom, h]


/-- Are the clauses as they must be, one behind another? -/
def okCl (last : Int) (c : Cl) : Bool := decide (last < c.no) && decide (c.no ≤ 1048576) && litB c.thn && decide (0 ≤ c.rank) && decide (c.rank ≤ 1048576) && risingB c.ifs

def okFrom : Bool → Int → List Cl → Bool
  | ok, _, [] => ok
  | ok, last, c :: r => okFrom (ok && okCl last c) c.no r

theorem okFrom_drop (ok : Bool) (last : Int) (l : List Cl) (k : Nat) (h : k < l.length) : okFrom ok last (l.drop k) = okFrom (ok && okCl last (l[k]?.getD default)) (l[k]?.getD default).no (l.drop (k + 1)) := by
  rw [List.drop_eq_getElem_cons h]; simp [okFrom, h]

def limitB (p : Pl) : Bool := decide ((64 : Int) < p.facts.length) || decide ((64 : Int) < p.clauses.length) || p.clauses.any fun c => decide ((8 : Int) < c.ifs.length)

def clashB (p : Pl) (q : Int) : Bool := (strictOf p).contains q && (strictOf p).contains (-q)

/-- What Check answers: 0 (all is well), 2 (too many), 510 (no plea); L: the literals. -/
def checkB (L : List Int) (p : Pl) : Int :=
  if limitB p then 2 else if !okFrom (risingB p.facts) (-1) p.clauses then 510 else if L.any (clashB p) then 510 else 0

/-- 1 plus the least index of a clause for q that is on; 0 if there is none. -/
def clauseB (p : Pl) (K : Known) (q : Int) : Int := 1 + idxFrom (fun c => c.thn == q && onB K c) p.clauses 0

/-- What is known when a reason has been learned. -/
def learnK (K : Known) (q : Int) (pv : Bool) : Known := fun y => if y = q then (if pv then 1 else 2) else K y

/-- The reason that a round gives for a literal. -/
def rsOf (p : Pl) (S : Int → Bool) (K : Known) (q : Int) : Option Rs :=
  if K q != 0 then none else if S q then some ⟨q, 0, true⟩ else if provesB p S K q then some ⟨q, clauseB p K q, true⟩ else if refutesB p S K q then some ⟨q, 0, false⟩ else none

def roundOf (p : Pl) (S : Int → Bool) (K : Known) (L : List Int) : List Rs := L.filterMap (rsOf p S K)

def learnAll (K : Known) (l : List Rs) : Known := l.foldl (fun K x => learnK K x.lit x.proved) K

/-- What is derived, and what is known, after so many rounds. -/
def deriveN (p : Pl) (S : Int → Bool) (L : List Int) : Nat → List Rs × Known
  | 0 => ([], fun _ => 0)
  | n + 1 => ((deriveN p S L n).1 ++ roundOf p S (deriveN p S L n).2 L, learnAll (deriveN p S L n).2 (roundOf p S (deriveN p S L n).2 L))

def deriveOf (p : Pl) (S : Int → Bool) (L : List Int) : List Rs × Known := deriveN p S L 65

theorem deriveN_stays {p : Pl} {S : Int → Bool} {L : List Int} {n : Nat} (h : roundOf p S (deriveN p S L n).2 L = []) : ∀ m, deriveN p S L (n + m) = deriveN p S L n
  | 0 => rfl
  | m + 1 => by
    have ih := deriveN_stays h m
    show ((deriveN p S L (n + m)).1 ++ roundOf p S (deriveN p S L (n + m)).2 L, learnAll (deriveN p S L (n + m)).2 (roundOf p S (deriveN p S L (n + m)).2 L)) = _
    rw [ih, h]
    simp [learnAll]

theorem learnK_keeps (K : Known) (q : Int) (pv : Bool) (y : Int) (h : K y ≠ 0) : learnK K q pv y ≠ 0 := by
  unfold learnK; split
  · split <;> decide
  · exact h

theorem learnAll_keeps : ∀ (l : List Rs) (K : Known) (y : Int), K y ≠ 0 → learnAll K l y ≠ 0
  | [], _, _, h => h
  | x :: r, K, y, h => learnAll_keeps r (learnK K x.lit x.proved) y (learnK_keeps K _ _ y h)

theorem learnAll_mem : ∀ (l : List Rs) (K : Known) (x : Rs), x ∈ l → learnAll K l x.lit ≠ 0
  | y :: r, K, x, h => by
    rcases List.mem_cons.1 h with rfl | h
    · exact learnAll_keeps r _ _ (by show learnK K x.lit x.proved x.lit ≠ 0; unfold learnK; rw [if_pos rfl]; split <;> decide)
    · exact learnAll_mem r _ x h

theorem countP_lt {α : Type} (f g : α → Bool) : ∀ (L : List α), (∀ x ∈ L, f x = true → g x = true) → (∃ x ∈ L, g x = true ∧ f x = false) → L.countP f < L.countP g
  | [], _, h => by obtain ⟨x, hx, _⟩ := h; cases hx
  | y :: r, hm, h => by
    have mono : r.countP f ≤ r.countP g := List.countP_mono_left (fun x hx hf => hm x (List.mem_cons_of_mem _ hx) hf)
    obtain ⟨x, hx, hg, hf⟩ := h
    rw [List.countP_cons, List.countP_cons]
    rcases List.mem_cons.1 hx with rfl | hr
    · rw [if_neg (by rw [hf]; simp), if_pos hg]; omega
    · have ih := countP_lt f g r (fun x hx => hm x (List.mem_cons_of_mem _ hx)) ⟨x, hr, hg, hf⟩
      have h2 : (if f y = true then 1 else 0) ≤ (if g y = true then 1 else 0) := by
        by_cases hfy : f y = true
        · rw [if_pos hfy, if_pos (hm y (List.mem_cons_self ..) hfy)]; exact Nat.le_refl _
        · rw [if_neg hfy]; omega
      omega

/-- Of how many literals nothing is known. -/
def unknown (L : List Int) (K : Known) : Nat := L.countP fun q => K q == 0

theorem rsOf_lit {p : Pl} {S : Int → Bool} {K : Known} {q : Int} {x : Rs} (h : rsOf p S K q = some x) : x.lit = q ∧ K q = 0 := by
  unfold rsOf at h
  split at h
  · cases h
  · rename_i h0
    have hk : K q = 0 := by simpa using h0
    split at h
    · cases h; exact ⟨rfl, hk⟩
    · split at h
      · cases h; exact ⟨rfl, hk⟩
      · split at h
        · cases h; exact ⟨rfl, hk⟩
        · cases h

theorem unknown_round {p : Pl} {S : Int → Bool} {K : Known} {L : List Int} (h : roundOf p S K L ≠ []) : unknown L (learnAll K (roundOf p S K L)) < unknown L K := by
  obtain ⟨x, hx⟩ := List.exists_mem_of_ne_nil _ h
  obtain ⟨q, hq, hqx⟩ := List.mem_filterMap.1 hx
  obtain ⟨rfl, hk⟩ := rsOf_lit hqx
  refine countP_lt _ _ L (fun y _ hy => ?_) ⟨x.lit, hq, by simp [hk], ?_⟩
  · simp only [beq_iff_eq] at hy ⊢
    exact Classical.byContradiction fun hn => learnAll_keeps _ K y hn hy
  · have := learnAll_mem _ K x hx
    simpa using this

theorem deriveN_unknown (p : Pl) (S : Int → Bool) (L : List Int) : ∀ n, (∀ m, m < n → roundOf p S (deriveN p S L m).2 L ≠ []) → unknown L (deriveN p S L n).2 + n ≤ L.length
  | 0, _ => by unfold unknown; simpa using List.countP_le_length
  | n + 1, h => by
    have ih := deriveN_unknown p S L n (fun m hm => h m (by omega))
    have := unknown_round (h n (by omega))
    show unknown L (learnAll (deriveN p S L n).2 (roundOf p S (deriveN p S L n).2 L)) + (n + 1) ≤ _
    omega

theorem deriveOf_eq {p : Pl} {S : Int → Bool} {L : List Int} (hL : L.length ≤ 65) {n : Nat} (h : roundOf p S (deriveN p S L n).2 L = []) (hs : ∀ m, m < n → roundOf p S (deriveN p S L m).2 L ≠ []) : deriveN p S L n = deriveOf p S L := by
  have := deriveN_unknown p S L n hs
  obtain ⟨m, hm⟩ : ∃ m, 65 = n + m := ⟨65 - n, by omega⟩
  unfold deriveOf
  rw [hm, deriveN_stays h]

theorem deriveN_len (p : Pl) (S : Int → Bool) (L : List Int) : ∀ n, (deriveN p S L n).1.length ≤ n * L.length
  | 0 => by simp [deriveN]
  | n + 1 => by
    have ih := deriveN_len p S L n
    have h2 : (roundOf p S (deriveN p S L n).2 L).length ≤ L.length := List.length_filterMap_le _ _
    simp only [deriveN, List.length_append, Nat.add_mul, Nat.one_mul]
    omega

def derivedB (L : List Int) (p : Pl) : List Rs × Known := deriveOf p (strictOf p).contains L

/-- What Answer gives: an answer and an error. -/
def answerB (L : List Int) (p : Pl) (q : Int) : Int × Int :=
  if checkB L p != 0 then (0, checkB L p) else if !litB q then (0, 1) else (if (derivedB L p).2 q = 0 then 3 else (derivedB L p).2 q, 0)

/-- What Derive gives. -/
def deriveB (L : List Int) (p : Pl) : List Rs × Int := if checkB L p != 0 then ([], checkB L p) else ((derivedB L p).1, 0)

theorem checkB_ok {L : List Int} {p : Pl} (h : checkB L p = 0) : p.facts.length ≤ 64 ∧ p.clauses.length ≤ 64 := by
  unfold checkB at h
  split at h
  · cases h
  · rename_i hl
    simp only [limitB, Bool.or_eq_true, not_or, decide_eq_true_eq] at hl
    omega

end Go.Proofs.Ythdgmimhaidmnaa
