/- Plain laws: what is known only grows; nothing is both proved and refuted; accepted lists say what the answers are. -/
import Derived.Test.YthdgmimhaidmnaaPure2
namespace Go.Proofs.Ythdgmimhaidmnaa
set_option linter.unusedSimpArgs false
set_option linter.unusedVariables false

/-- K' knows at least what K knows, and says the same of it. -/
def KLe (K K' : Known) : Prop := ∀ q, K q ≠ 0 → K' q = K q
theorem KLe.refl (K : Known) : KLe K K := fun _ _ => rfl
theorem KLe.trans {A B C : Known} (h : KLe A B) (k : KLe B C) : KLe A C := fun q hq => by rw [k q (by rw [h q hq]; exact hq), h q hq]

theorem onB_iff {K : Known} {c : Cl} : onB K c = true ↔ ∀ q ∈ c.ifs, K q = 1 := by
  unfold onB
  rw [Bool.not_eq_true', List.any_eq_false]
  exact forall_congr' fun q => forall_congr' fun _ => by simp
theorem offB_iff {K : Known} {c : Cl} : offB K c = true ↔ ∃ q ∈ c.ifs, K q = 2 := by
  unfold offB
  rw [List.any_eq_true]
  exact exists_congr fun q => by simp
theorem onB_mono {K K' : Known} (h : KLe K K') {c : Cl} (hc : onB K c = true) : onB K' c = true :=
  onB_iff.2 fun q hq => by have := onB_iff.1 hc q hq; rw [h q (by rw [this]; decide), this]
theorem offB_mono {K K' : Known} (h : KLe K K') {c : Cl} (hc : offB K c = true) : offB K' c = true := by
  obtain ⟨q, hq, e⟩ := offB_iff.1 hc
  exact offB_iff.2 ⟨q, hq, by rw [h q (by rw [e]; decide), e]⟩
theorem on_not_off {K : Known} {c : Cl} (h : onB K c = true) : offB K c = false := by
  cases ho : offB K c with
  | false => rfl
  | true =>
    obtain ⟨q, hq, e⟩ := offB_iff.1 ho
    rw [onB_iff.1 h q hq] at e
    cases e

theorem someB_iff {p : Pl} {q : Int} {f : Cl → Bool} : someB p q f = true ↔ ∃ c ∈ p.clauses, c.thn = q ∧ f c = true := by
  unfold someB
  rw [List.any_eq_true]
  exact exists_congr fun c => by simp
theorem someB_false {p : Pl} {q : Int} {f : Cl → Bool} : someB p q f = false ↔ ∀ c ∈ p.clauses, c.thn = q → f c = false := by
  unfold someB
  rw [List.any_eq_false]
  exact forall_congr' fun c => forall_congr' fun _ => by simp

/-- A literal is proved. -/
def Proves (p : Pl) (S : Int → Bool) (K : Known) (q : Int) : Prop := S q = true ∨ (S (-q) = false ∧ (∃ c ∈ p.clauses, c.thn = q ∧ onB K c = true) ∧ ∀ s ∈ p.clauses, s.thn = -q → offB K s = false → ∃ c ∈ p.clauses, c.thn = q ∧ onB K c = true ∧ s.rank < c.rank)
/-- A literal is refuted. -/
def Refutes (p : Pl) (S : Int → Bool) (K : Known) (q : Int) : Prop := S q = false ∧ (S (-q) = true ∨ (∀ c ∈ p.clauses, c.thn = q → offB K c = true) ∨ ∃ s ∈ p.clauses, s.thn = -q ∧ onB K s = true ∧ ∀ c ∈ p.clauses, c.thn = q → offB K c = false → ¬ s.rank < c.rank)

theorem provesB_iff {p : Pl} {S : Int → Bool} {K : Known} {q : Int} : provesB p S K q = true ↔ Proves p S K q := by
  unfold provesB Proves
  cases h1 : S q
  · rw [if_neg (by simp)]
    cases h2 : S (-q)
    · cases h3 : someB p q (onB K)
      · rw [if_pos (by simp)]
        refine ⟨fun h => (by cases h), ?_⟩
        rintro (h | ⟨_, ⟨c, hc, e, ho⟩, _⟩)
        · cases h
        · have := someB_false.1 h3 c hc e; rw [ho] at this; cases this
      · rw [if_neg (by simp)]
        have h3' := someB_iff.1 h3
        rw [Bool.not_eq_true', someB_false]
        constructor
        · refine fun h => .inr ⟨rfl, h3', fun s hs e ho => ?_⟩
          have := h s hs e
          rw [ho] at this
          simp only [Bool.not_false, Bool.true_and, Bool.not_eq_false'] at this
          obtain ⟨c, hc, e2, h2⟩ := someB_iff.1 this
          simp only [Bool.and_eq_true, decide_eq_true_eq] at h2
          exact ⟨c, hc, e2, h2⟩
        · rintro (h | ⟨_, _, h⟩)
          · cases h
          · intro s hs e
            cases ho : offB K s
            · obtain ⟨c, hc, e2, h2, h3⟩ := h s hs e ho
              have : (someB p q fun c => onB K c && decide (s.rank < c.rank)) = true := someB_iff.2 ⟨c, hc, e2, by simp [h2, h3]⟩
              rw [this]; rfl
            · rfl
    · rw [if_pos (by simp)]
      refine ⟨fun h => (by cases h), ?_⟩
      rintro (h | ⟨h, _⟩) <;> cases h
  · rw [if_pos rfl]
    exact ⟨fun _ => .inl rfl, fun _ => rfl⟩

theorem refutesB_iff {p : Pl} {S : Int → Bool} {K : Known} {q : Int} : refutesB p S K q = true ↔ Refutes p S K q := by
  unfold refutesB Refutes
  simp only [Bool.and_eq_true, Bool.or_eq_true, Bool.not_eq_true', or_assoc]
  refine and_congr Iff.rfl (or_congr Iff.rfl (or_congr ?_ ?_))
  · rw [someB_false]
    exact forall_congr' fun c => forall_congr' fun _ => forall_congr' fun _ => by simp
  · rw [someB_iff]
    refine exists_congr fun s => and_congr Iff.rfl (and_congr Iff.rfl ?_)
    rw [Bool.and_eq_true, Bool.not_eq_true', someB_false]
    refine and_congr Iff.rfl (forall_congr' fun c => forall_congr' fun _ => forall_congr' fun _ => ?_)
    cases offB K c <;> simp

theorem Proves.mono {p : Pl} {S : Int → Bool} {K K' : Known} {q : Int} (hk : KLe K K') (h : Proves p S K q) : Proves p S K' q := by
  rcases h with h | ⟨h1, ⟨c, hc, e, ho⟩, h2⟩
  · exact .inl h
  · refine .inr ⟨h1, ⟨c, hc, e, onB_mono hk ho⟩, fun s hs e2 hoff => ?_⟩
    have hoff2 : offB K s = false := by
      cases h3 : offB K s with
      | false => rfl
      | true => rw [offB_mono hk h3] at hoff; cases hoff
    obtain ⟨c, hc, e3, h4, h5⟩ := h2 s hs e2 hoff2
    exact ⟨c, hc, e3, onB_mono hk h4, h5⟩
theorem off_anti {K K' : Known} (hk : KLe K K') {c : Cl} (h : offB K' c = false) : offB K c = false := by
  cases h3 : offB K c with
  | false => rfl
  | true => rw [offB_mono hk h3] at h; cases h
theorem Refutes.mono {p : Pl} {S : Int → Bool} {K K' : Known} {q : Int} (hk : KLe K K') (h : Refutes p S K q) : Refutes p S K' q := by
  obtain ⟨h1, h | h | ⟨s, hs, e, ho, h2⟩⟩ := h
  · exact ⟨h1, .inl h⟩
  · exact ⟨h1, .inr (.inl fun c hc e => offB_mono hk (h c hc e))⟩
  · exact ⟨h1, .inr (.inr ⟨s, hs, e, onB_mono hk ho, fun c hc e2 hoff => h2 c hc e2 (off_anti hk hoff)⟩)⟩
theorem Proves.not {p : Pl} {S : Int → Bool} {K : Known} {q : Int} (h : Proves p S K q) : ¬ Refutes p S K q := by
  rintro ⟨h1, h2⟩
  rcases h with h | ⟨h3, ⟨c, hc, e, ho⟩, h4⟩
  · rw [h] at h1; cases h1
  · rcases h2 with h2 | h2 | ⟨s, hs, e2, ho2, h5⟩
    · rw [h2] at h3; cases h3
    · have := h2 c hc e; rw [on_not_off ho] at this; cases this
    · obtain ⟨c', hc', e', ho', hr⟩ := h4 s hs e2 (on_not_off ho2)
      exact h5 c' hc' e' (on_not_off ho') hr

/-- What is known is so, by what is known. -/
def Just (p : Pl) (S : Int → Bool) (K : Known) : Prop := ∀ q, K q ≠ 0 → (K q = 1 ∧ Proves p S K q) ∨ (K q = 2 ∧ Refutes p S K q)
/-- A reason is right. -/
def Right (p : Pl) (S : Int → Bool) (K : Known) (x : Rs) : Prop := (x.proved = true → Proves p S K x.lit) ∧ (x.proved = false → Refutes p S K x.lit)
theorem Right.mono {p : Pl} {S : Int → Bool} {K K' : Known} {x : Rs} (hk : KLe K K') (h : Right p S K x) : Right p S K' x := ⟨fun e => (h.1 e).mono hk, fun e => (h.2 e).mono hk⟩
theorem Just.none (p : Pl) (S : Int → Bool) : Just p S (fun _ => 0) := fun _ h => absurd rfl h
theorem learnK_le {K : Known} {q : Int} {pv : Bool} (h : K q = 0) : KLe K (learnK K q pv) := fun y hy => by
  unfold learnK; rw [if_neg (fun e => hy (by rw [e]; exact h))]
theorem learnK_at (K : Known) (q : Int) (pv : Bool) : learnK K q pv q = if pv then 1 else 2 := by unfold learnK; rw [if_pos rfl]
theorem Just.learn {p : Pl} {S : Int → Bool} {K : Known} {x : Rs} (hj : Just p S K) (h0 : K x.lit = 0) (hr : Right p S K x) : Just p S (learnK K x.lit x.proved) := by
  have hk : KLe K (learnK K x.lit x.proved) := learnK_le h0
  intro q hq
  by_cases e : q = x.lit
  · subst e
    rw [learnK_at]
    cases hp : x.proved
    · exact .inr ⟨rfl, hp ▸ (hr.2 hp).mono hk⟩
    · exact .inl ⟨rfl, hp ▸ (hr.1 hp).mono hk⟩
  · have e2 : learnK K x.lit x.proved q = K q := by unfold learnK; rw [if_neg e]
    rw [e2] at hq ⊢
    rcases hj q hq with ⟨h1, h2⟩ | ⟨h1, h2⟩
    · exact .inl ⟨h1, h2.mono hk⟩
    · exact .inr ⟨h1, h2.mono hk⟩
theorem learnAll_le : ∀ (l : List Rs) (K : Known), (∀ x ∈ l, K x.lit = 0) → (l.map Rs.lit).Nodup → KLe K (learnAll K l)
  | [], K, _, _ => KLe.refl K
  | x :: r, K, h0, hn => by
    rw [List.map_cons, List.nodup_cons] at hn
    refine (learnK_le (pv := x.proved) (h0 x (by simp))).trans (learnAll_le r (learnK K x.lit x.proved) (fun y hy => ?_) hn.2)
    unfold learnK
    rw [if_neg (fun e => hn.1 (by rw [← e]; exact List.mem_map_of_mem hy))]
    exact h0 y (by simp [hy])
theorem Just.learnAll {p : Pl} {S : Int → Bool} : ∀ (l : List Rs) (K : Known), Just p S K → (∀ x ∈ l, Right p S K x) → (∀ x ∈ l, K x.lit = 0) → (l.map Rs.lit).Nodup → Just p S (Go.Proofs.Ythdgmimhaidmnaa.learnAll K l)
  | [], _, hj, _, _, _ => hj
  | x :: r, K, hj, hr, h0, hn => by
    rw [List.map_cons, List.nodup_cons] at hn
    have hk : KLe K (learnK K x.lit x.proved) := learnK_le (h0 x (by simp))
    refine Just.learnAll r (learnK K x.lit x.proved) (hj.learn (h0 x (by simp)) (hr x (by simp))) (fun y hy => (hr y (by simp [hy])).mono hk) (fun y hy => ?_) hn.2
    unfold learnK
    rw [if_neg (fun e => hn.1 (by rw [← e]; exact List.mem_map_of_mem hy))]
    exact h0 y (by simp [hy])
theorem learnAll_at : ∀ (l : List Rs) (K : Known), (l.map Rs.lit).Nodup → ∀ x ∈ l, Go.Proofs.Ythdgmimhaidmnaa.learnAll K l x.lit = if x.proved then 1 else 2
  | y :: r, K, hn, x, hx => by
    rw [List.map_cons, List.nodup_cons] at hn
    rcases List.mem_cons.1 hx with rfl | hx
    · have : ∀ (r : List Rs) (K : Known) (q : Int), q ∉ r.map Rs.lit → Go.Proofs.Ythdgmimhaidmnaa.learnAll K r q = K q := by
        intro r
        induction r with
        | nil => intros; rfl
        | cons z r ih =>
          intro K q hq
          rw [List.map_cons, List.mem_cons, not_or] at hq
          show Go.Proofs.Ythdgmimhaidmnaa.learnAll (learnK K z.lit z.proved) r q = _
          rw [ih _ _ hq.2]
          unfold learnK
          rw [if_neg hq.1]
      show Go.Proofs.Ythdgmimhaidmnaa.learnAll (learnK K x.lit x.proved) r x.lit = _
      rw [this _ _ _ hn.1, learnK_at]
    · exact learnAll_at r _ hn.2 x hx
theorem learnAll_out : ∀ (r : List Rs) (K : Known) (q : Int), q ∉ r.map Rs.lit → Go.Proofs.Ythdgmimhaidmnaa.learnAll K r q = K q
  | [], _, _, _ => rfl
  | z :: r, K, q, hq => by
    rw [List.map_cons, List.mem_cons, not_or] at hq
    show Go.Proofs.Ythdgmimhaidmnaa.learnAll (learnK K z.lit z.proved) r q = _
    rw [learnAll_out r _ _ hq.2]
    unfold learnK
    rw [if_neg hq.1]

theorem rsOf_right {p : Pl} {S : Int → Bool} {K : Known} {q : Int} {x : Rs} (h : rsOf p S K q = some x) : Right p S K x := by
  unfold rsOf at h
  split at h
  · cases h
  · split at h
    · rename_i hs; cases h; exact ⟨fun _ => .inl hs, fun e => (by cases e)⟩
    · split at h
      · rename_i hp; cases h; exact ⟨fun _ => provesB_iff.1 hp, fun e => (by cases e)⟩
      · split at h
        · rename_i hr; cases h; exact ⟨fun e => (by cases e), fun _ => refutesB_iff.1 hr⟩
        · cases h
theorem roundOf_mem {p : Pl} {S : Int → Bool} {K : Known} {L : List Int} {x : Rs} (h : x ∈ roundOf p S K L) : x.lit ∈ L ∧ K x.lit = 0 ∧ Right p S K x := by
  obtain ⟨q, hq, hx⟩ := List.mem_filterMap.1 h
  obtain ⟨rfl, h0⟩ := rsOf_lit hx
  exact ⟨hq, h0, rsOf_right hx⟩
theorem roundOf_nodup {p : Pl} {S : Int → Bool} {K : Known} : ∀ {L : List Int}, L.Nodup → ((roundOf p S K L).map Rs.lit).Nodup
  | [], _ => List.nodup_nil
  | q :: L, h => by
    rw [List.nodup_cons] at h
    have ih := roundOf_nodup (p := p) (S := S) (K := K) h.2
    unfold roundOf at ih ⊢
    cases hx : rsOf p S K q with
    | none => rw [List.filterMap_cons_none hx]; exact ih
    | some x =>
      rw [List.filterMap_cons_some hx, List.map_cons, List.nodup_cons]
      refine ⟨fun hm => ?_, ih⟩
      obtain ⟨y, hy, e⟩ := List.mem_map.1 hm
      have := (roundOf_mem (L := L) hy).1
      rw [e, (rsOf_lit hx).1] at this
      exact h.1 this

/-- What derivations are: right one behind another, of literals once. -/
theorem deriveN_just {p : Pl} {S : Int → Bool} {L : List Int} (hL : L.Nodup) : ∀ n, Just p S (deriveN p S L n).2
  | 0 => Just.none p S
  | n + 1 => Just.learnAll _ _ (deriveN_just hL n) (fun x hx => (roundOf_mem hx).2.2) (fun x hx => (roundOf_mem hx).2.1) (roundOf_nodup hL)
theorem deriveN_le {p : Pl} {S : Int → Bool} {L : List Int} (hL : L.Nodup) (n : Nat) : KLe (deriveN p S L n).2 (deriveN p S L (n + 1)).2 :=
  learnAll_le _ _ (fun x hx => (roundOf_mem hx).2.1) (roundOf_nodup hL)
theorem deriveN_in {p : Pl} {S : Int → Bool} {L : List Int} : ∀ n q, (deriveN p S L n).2 q ≠ 0 → q ∈ L
  | 0, _, h => absurd rfl h
  | n + 1, q, h => by
    by_cases hm : q ∈ (roundOf p S (deriveN p S L n).2 L).map Rs.lit
    · obtain ⟨x, hx, rfl⟩ := List.mem_map.1 hm
      exact (roundOf_mem hx).1
    · have e : (deriveN p S L (n + 1)).2 q = (deriveN p S L n).2 q := learnAll_out _ _ _ hm
      rw [e] at h
      exact deriveN_in n q h

theorem derive_end {p : Pl} {S : Int → Bool} {L : List Int} (hL : L.length ≤ 64) : ∃ n, n ≤ 64 ∧ deriveN p S L n = deriveOf p S L ∧ roundOf p S (deriveOf p S L).2 L = [] := by
  by_cases h : ∃ n, n < 65 ∧ roundOf p S (deriveN p S L n).2 L = []
  · obtain ⟨n, hn, hr⟩ := h
    obtain ⟨m, hm⟩ : ∃ m, 65 = n + m := ⟨65 - n, by omega⟩
    have e : deriveN p S L n = deriveOf p S L := by unfold deriveOf; rw [hm, deriveN_stays hr]
    exact ⟨n, by omega, e, by rw [← e]; exact hr⟩
  · have := deriveN_unknown p S L 65 (fun m hm he => h ⟨m, hm, he⟩)
    omega
theorem derive_just {p : Pl} {S : Int → Bool} {L : List Int} (hL : L.Nodup) : Just p S (deriveOf p S L).2 := deriveN_just hL 65
theorem derive_in {p : Pl} {S : Int → Bool} {L : List Int} {q : Int} (h : (deriveOf p S L).2 q ≠ 0) : q ∈ L := deriveN_in 65 q h
/-- Nothing is left to be said. -/
theorem derive_full {p : Pl} {S : Int → Bool} {L : List Int} (hL : L.length ≤ 64) {q : Int} (hq : q ∈ L) (h0 : (deriveOf p S L).2 q = 0) : ¬ Proves p S (deriveOf p S L).2 q ∧ ¬ Refutes p S (deriveOf p S L).2 q := by
  obtain ⟨_, _, _, h⟩ := derive_end (p := p) (S := S) hL
  have hn : rsOf p S (deriveOf p S L).2 q = none := List.filterMap_eq_nil_iff.1 h q hq
  unfold rsOf at hn
  rw [h0, if_neg (by decide)] at hn
  cases hs : S q with
  | true => rw [hs, if_pos rfl] at hn; cases hn
  | false =>
    rw [hs, if_neg (by decide)] at hn
    cases hp : provesB p S (deriveOf p S L).2 q with
    | true => rw [hp, if_pos rfl] at hn; cases hn
    | false =>
      rw [hp, if_neg (by decide)] at hn
      cases hr : refutesB p S (deriveOf p S L).2 q with
      | true => rw [hr, if_pos rfl] at hn; cases hn
      | false => exact ⟨fun h => (by rw [provesB_iff.2 h] at hp; cases hp), fun h => (by rw [refutesB_iff.2 h] at hr; cases hr)⟩

/-- What is right by less than the answers is what the answers say. -/
theorem derive_says {p : Pl} {S : Int → Bool} {L : List Int} (hN : L.Nodup) (hL : L.length ≤ 64) {K : Known} (hk : KLe K (deriveOf p S L).2) {x : Rs} (hx : x.lit ∈ L) (hr : Right p S K x) : (deriveOf p S L).2 x.lit = if x.proved then 1 else 2 := by
  have hr2 := hr.mono hk
  have hj := derive_just (p := p) (S := S) hN
  have h0 : (deriveOf p S L).2 x.lit ≠ 0 := fun h0 => by
    have := derive_full hL hx h0
    cases hp : x.proved
    · exact this.2 (hr2.2 hp)
    · exact this.1 (hr2.1 hp)
  cases hp : x.proved
  · rcases hj _ h0 with ⟨_, h⟩ | ⟨h, _⟩
    · exact absurd (hr2.2 hp) h.not
    · rw [h]; rfl
  · rcases hj _ h0 with ⟨h, _⟩ | ⟨_, h⟩
    · rw [h]; rfl
    · exact absurd h (hr2.1 hp).not

/-- What follows is right, and new. -/
theorem follows_right {p : Pl} {S : Int → Bool} {K : Known} {x : Rs} (h : followsB p S K x = true) : litB x.lit = true ∧ K x.lit = 0 ∧ Right p S K x := by
  unfold followsB at h
  split at h
  · cases h
  · rename_i h1
    simp only [Bool.or_eq_true, not_or, Bool.not_eq_true', Bool.not_eq_false, bne_iff_ne, ne_eq, Decidable.not_not] at h1
    refine ⟨h1.1.1.1, h1.1.1.2, ?_⟩
    split at h
    · rename_i h2
      rw [Bool.and_eq_true] at h
      exact ⟨fun e => (by rw [e] at h2; cases h2), fun _ => refutesB_iff.1 h.2⟩
    · rename_i h2
      refine ⟨fun _ => ?_, fun e => (by rw [e] at h2; exact absurd rfl h2)⟩
      split at h
      · exact .inl h
      · simp only [Bool.and_eq_true] at h
        exact provesB_iff.1 h.2

theorem accepts_says {p : Pl} {S : Int → Bool} {L : List Int} (hN : L.Nodup) (hL : L.length ≤ 64) (hM : ∀ q, litB q = true → q ∈ L) : ∀ (l : List Rs) (K : Known), KLe K (deriveOf p S L).2 → acceptsFrom p S K l = true → ∀ x ∈ l, (deriveOf p S L).2 x.lit = if x.proved then 1 else 2
  | [], _, _, _, x, hx => by cases hx
  | y :: r, K, hk, h, x, hx => by
    rw [acceptsFrom, Bool.and_eq_true] at h
    obtain ⟨h1, h2, h3⟩ := follows_right h.1
    have hy := derive_says hN hL hk (hM _ h1) h3
    rcases List.mem_cons.1 hx with rfl | hx
    · exact hy
    · refine accepts_says hN hL hM r _ (fun q hq => ?_) h.2 x hx
      by_cases e : q = y.lit
      · subst e; rw [hy, learnK_at]
      · have e2 : learnK K y.lit y.proved q = K q := by unfold learnK; rw [if_neg e]
        rw [e2] at hq ⊢
        exact hk q hq
theorem accepts_take {p : Pl} {S : Int → Bool} : ∀ (l : List Rs) (K : Known) (k : Nat), acceptsFrom p S K l = true → acceptsFrom p S K (l.take k) = true
  | [], _, _, _ => by rw [List.take_nil]; rfl
  | y :: r, K, 0, _ => rfl
  | y :: r, K, k + 1, h => by
    rw [acceptsFrom, Bool.and_eq_true] at h
    rw [List.take_succ_cons, acceptsFrom, h.1, accepts_take r _ k h.2]; rfl
theorem accepts_known {p : Pl} {S : Int → Bool} (x : Rs) : ∀ (l : List Rs) (K : Known), K x.lit ≠ 0 → acceptsFrom p S K (l ++ [x]) = false
  | [], K, h => by
    show (followsB p S K x && acceptsFrom p S (learnK K x.lit x.proved) []) = false
    cases hf : followsB p S K x with
    | false => rfl
    | true => exact absurd (follows_right hf).2.1 h
  | y :: r, K, h => by
    show (followsB p S K y && acceptsFrom p S (learnK K y.lit y.proved) (r ++ [x])) = false
    rw [accepts_known x r _ (learnK_keeps K _ _ _ h), Bool.and_false]
theorem accepts_twice {p : Pl} {S : Int → Bool} (x : Rs) : ∀ (l : List Rs) (K : Known), x ∈ l → acceptsFrom p S K (l ++ [x]) = false
  | y :: r, K, h => by
    show (followsB p S K y && acceptsFrom p S (learnK K y.lit y.proved) (r ++ [x])) = false
    rcases List.mem_cons.1 h with rfl | h
    · rw [accepts_known x r _ (by rw [learnK_at]; split <;> decide), Bool.and_false]
    · rw [accepts_twice x r _ h, Bool.and_false]
end Go.Proofs.Ythdgmimhaidmnaa
