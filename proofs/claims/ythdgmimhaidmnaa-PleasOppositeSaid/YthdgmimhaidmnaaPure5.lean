/- Plain laws: ranks by their order alone; clauses that are off; opposites. -/
import Derived.Test.YthdgmimhaidmnaaPure4
namespace Go.Proofs.Ythdgmimhaidmnaa
set_option linter.unusedSimpArgs false
set_option linter.unusedVariables false

/-! ### Two pleas that say the same -/
/-- Right by the one is right by the other, at whatever is known, and less than K. -/
theorem derive_le {p p' : Pl} {S S' : Int → Bool} {L L' : List Int} {f : Int → Int} (hf : ∀ q, f (f q) = q) (hN : L.Nodup) (hN' : L'.Nodup) (hL' : L'.length ≤ 64) (hM : ∀ q ∈ L, f q ∈ L')
    (hR : ∀ n x, x.lit ∈ L → Right p S (deriveN p S L n).2 x → Right p' S' (fun q => (deriveN p S L n).2 (f q)) ⟨f x.lit, x.clause, x.proved⟩) : ∀ n, KLe (fun q => (deriveN p S L n).2 (f q)) (deriveOf p' S' L').2
  | 0 => fun q h => absurd rfl h
  | n + 1 => by
    have ih := derive_le (p := p) (p' := p') (S := S) (S' := S') hf hN hN' hL' hM hR n
    intro q hq
    by_cases hm : f q ∈ (roundOf p S (deriveN p S L n).2 L).map Rs.lit
    · obtain ⟨x, hx, e⟩ := List.mem_map.1 hm
      obtain ⟨h1, h2, h3⟩ := roundOf_mem hx
      have hs := derive_says hN' hL' ih (x := ⟨f x.lit, x.clause, x.proved⟩) (hM _ h1) (hR n x h1 h3)
      have e2 : (deriveN p S L (n + 1)).2 x.lit = if x.proved then 1 else 2 := learnAll_at _ _ (roundOf_nodup hN) x hx
      have e3 : f x.lit = q := by rw [e, hf]
      dsimp only at hs ⊢
      rw [← e3, hs, hf, e2]
    · have e : (deriveN p S L (n + 1)).2 (f q) = (deriveN p S L n).2 (f q) := learnAll_out _ _ _ hm
      dsimp only at hq ⊢
      rw [e] at hq ⊢
      exact ih q hq
theorem KLe.eq {K K' : Known} (h : KLe K K') (h' : KLe K' K) : K = K' := by
  funext q
  by_cases hq : K q = 0
  · by_cases hq' : K' q = 0
    · rw [hq, hq']
    · exact h' q hq'
  · exact (h q hq).symm

/-! ### Ranks -/
/-- The same plea with other ranks. -/
def reRank (g : Cl → Int) (p : Pl) : Pl := ⟨p.facts, p.clauses.map fun c => { c with rank := g c }⟩
theorem reRank_next (g : Cl → Int) (p : Pl) (l : List Int) : strictNext (reRank g p) l = (strictNext p l).map fun c => { c with rank := g c } := by
  unfold strictNext reRank
  rw [List.find?_map]
  rfl
theorem reRank_strictL (g : Cl → Int) (p : Pl) : ∀ n, strictL (reRank g p) n = strictL p n
  | 0 => rfl
  | n + 1 => by
    have ih := reRank_strictL g p n
    show (match strictNext (reRank g p) (strictL (reRank g p) n) with | some c => strictL (reRank g p) n ++ [c.thn] | none => strictL (reRank g p) n) = (match strictNext p (strictL p n) with | some c => strictL p n ++ [c.thn] | none => strictL p n)
    rw [ih, reRank_next]
    cases strictNext p (strictL p n) <;> rfl
theorem reRank_strict (g : Cl → Int) (p : Pl) : strictOf (reRank g p) = strictOf p := by
  unfold strictOf
  rw [reRank_strictL]
  simp [reRank]
theorem reRank_proves {g : Cl → Int} {p : Pl} (hg : ∀ c ∈ p.clauses, ∀ d ∈ p.clauses, (g c < g d ↔ c.rank < d.rank)) {S : Int → Bool} {K : Known} {q : Int} : Proves (reRank g p) S K q ↔ Proves p S K q := by
  unfold Proves reRank
  simp only [List.mem_map]
  refine or_congr Iff.rfl (and_congr Iff.rfl (and_congr ?_ ?_))
  · constructor
    · rintro ⟨_, ⟨c, hc, rfl⟩, h1, h2⟩; exact ⟨c, hc, h1, h2⟩
    · rintro ⟨c, hc, h1, h2⟩; exact ⟨{ c with rank := g c }, ⟨c, hc, rfl⟩, h1, h2⟩
  · constructor
    · intro h s hs h1 h2
      obtain ⟨_, ⟨c, hc, rfl⟩, k1, k2, k3⟩ := h { s with rank := g s } ⟨s, hs, rfl⟩ h1 h2
      exact ⟨c, hc, k1, k2, (hg s hs c hc).1 k3⟩
    · rintro h _ ⟨s, hs, rfl⟩ h1 h2
      obtain ⟨c, hc, k1, k2, k3⟩ := h s hs h1 h2
      exact ⟨{ c with rank := g c }, ⟨c, hc, rfl⟩, k1, k2, (hg s hs c hc).2 k3⟩
theorem reRank_refutes {g : Cl → Int} {p : Pl} (hg : ∀ c ∈ p.clauses, ∀ d ∈ p.clauses, (g c < g d ↔ c.rank < d.rank)) {S : Int → Bool} {K : Known} {q : Int} : Refutes (reRank g p) S K q ↔ Refutes p S K q := by
  unfold Refutes reRank
  simp only [List.mem_map]
  refine and_congr Iff.rfl (or_congr Iff.rfl (or_congr ?_ ?_))
  · constructor
    · intro h c hc e; exact h { c with rank := g c } ⟨c, hc, rfl⟩ e
    · rintro h _ ⟨c, hc, rfl⟩ e; exact h c hc e
  · constructor
    · rintro ⟨_, ⟨s, hs, rfl⟩, h1, h2, h3⟩
      exact ⟨s, hs, h1, h2, fun c hc e ho hlt => h3 { c with rank := g c } ⟨c, hc, rfl⟩ e ho ((hg s hs c hc).2 hlt)⟩
    · rintro ⟨s, hs, h1, h2, h3⟩
      refine ⟨{ s with rank := g s }, ⟨s, hs, rfl⟩, h1, h2, ?_⟩
      rintro _ ⟨c, hc, rfl⟩ e ho hlt
      exact h3 c hc e ho ((hg s hs c hc).1 hlt)
theorem idxFrom_map {α β : Type} (f : β → Bool) (h : α → β) : ∀ (l : List α) (k : Nat), idxFrom f (l.map h) k = idxFrom (fun x => f (h x)) l k
  | [], _ => rfl
  | x :: r, k => by rw [List.map_cons]; unfold idxFrom; rw [idxFrom_map f h r]
theorem bool_iff {a b : Bool} (h : a = true ↔ b = true) : a = b := by cases a <;> cases b <;> simp_all
theorem reRank_rsOf {g : Cl → Int} {p : Pl} (hg : ∀ c ∈ p.clauses, ∀ d ∈ p.clauses, (g c < g d ↔ c.rank < d.rank)) {S : Int → Bool} {K : Known} {q : Int} : rsOf (reRank g p) S K q = rsOf p S K q := by
  have h1 : provesB (reRank g p) S K q = provesB p S K q := bool_iff (provesB_iff.trans ((reRank_proves hg).trans provesB_iff.symm))
  have h2 : refutesB (reRank g p) S K q = refutesB p S K q := bool_iff (refutesB_iff.trans ((reRank_refutes hg).trans refutesB_iff.symm))
  have h3 : clauseB (reRank g p) K q = clauseB p K q := by
    unfold clauseB reRank
    rw [idxFrom_map]
    rfl
  unfold rsOf
  rw [h1, h2, h3]
theorem reRank_deriveN {g : Cl → Int} {p : Pl} (hg : ∀ c ∈ p.clauses, ∀ d ∈ p.clauses, (g c < g d ↔ c.rank < d.rank)) {S : Int → Bool} {L : List Int} : ∀ n, deriveN (reRank g p) S L n = deriveN p S L n
  | 0 => rfl
  | n + 1 => by
    have ih := reRank_deriveN hg (S := S) (L := L) n
    have hr : ∀ K, roundOf (reRank g p) S K L = roundOf p S K L := fun K => by
      unfold roundOf
      congr 1
      funext q
      exact reRank_rsOf hg
    unfold deriveN
    rw [ih, hr]
theorem okFrom_congr : ∀ (l : List Cl) (h : Cl → Cl) (ok : Bool) (last : Int), (∀ c ∈ l, (h c).no = c.no ∧ ∀ last, okCl last (h c) = okCl last c) → okFrom ok last (l.map h) = okFrom ok last l
  | [], _, _, _, _ => rfl
  | c :: r, h, ok, last, hc => by
    obtain ⟨h1, h2⟩ := hc c (by simp)
    show okFrom (ok && okCl last (h c)) (h c).no (r.map h) = okFrom (ok && okCl last c) c.no r
    rw [h1, h2, okFrom_congr r h _ _ (fun d hd => hc d (by simp [hd]))]
theorem reRank_check {g : Cl → Int} {p : Pl} {L : List Int} (h : checkB L p = 0) (hg : ∀ c ∈ p.clauses, 0 ≤ g c ∧ g c ≤ 1048576) : checkB L (reRank g p) = 0 := by
  have hv := check_valid h
  have e1 : limitB (reRank g p) = limitB p := by
    unfold limitB reRank
    simp [List.any_map, Function.comp_def]
  have e2 : okFrom (risingB p.facts) (-1) (reRank g p).clauses = okFrom (risingB p.facts) (-1) p.clauses := by
    refine okFrom_congr p.clauses _ _ _ fun c hc => ⟨rfl, fun last => ?_⟩
    unfold okCl
    obtain ⟨_, _, h3, h4, _⟩ := hv.cls c hc
    obtain ⟨h5, h6⟩ := hg c hc
    simp [h3, h4, h5, h6]
  have e3 : ∀ q, clashB (reRank g p) q = clashB p q := fun q => by unfold clashB; rw [reRank_strict]
  unfold checkB at h ⊢
  have e4 : (reRank g p).facts = p.facts := rfl
  rw [e1, e4, e2, show clashB (reRank g p) = clashB p from funext e3]
  exact h
/-- How many clauses have a lesser rank. -/
def lessRanks (p : Pl) (c : Cl) : Int := ((p.clauses.countP fun d => decide (d.rank < c.rank) : Nat) : Int)
theorem lessRanks_lt {p : Pl} : ∀ c ∈ p.clauses, ∀ d ∈ p.clauses, (lessRanks p c < lessRanks p d ↔ c.rank < d.rank) := by
  intro c hc d hd
  unfold lessRanks
  constructor
  · intro h
    refine Classical.byContradiction fun hn => ?_
    have : (p.clauses.countP fun x => decide (x.rank < d.rank)) ≤ p.clauses.countP fun x => decide (x.rank < c.rank) :=
      List.countP_mono_left fun x _ hx => by simp only [decide_eq_true_eq] at hx ⊢; omega
    omega
  · intro h
    have := countP_lt (fun x : Cl => decide (x.rank < c.rank)) (fun x => decide (x.rank < d.rank)) p.clauses (fun x _ hx => by simp only [decide_eq_true_eq] at hx ⊢; omega) ⟨c, hc, by simpa using h, by simp⟩
    omega
theorem lessRanks_range {p : Pl} {c : Cl} (hp : p.clauses.length ≤ 64) : 0 ≤ lessRanks p c ∧ lessRanks p c ≤ 1048576 := by
  unfold lessRanks
  have : (p.clauses.countP fun d => decide (d.rank < c.rank)) ≤ p.clauses.length := List.countP_le_length
  omega

/-! ### A clause that is off is left out -/
def dropCl (p : Pl) (k : Nat) : Pl := ⟨p.facts, p.clauses.take k ++ p.clauses.drop (k + 1)⟩
theorem split_at {α : Type} {l : List α} {k : Nat} {c : α} (h : l[k]? = some c) : l = l.take k ++ c :: l.drop (k + 1) := by
  have hk := (List.getElem?_eq_some_iff.1 h).1
  have he := (List.getElem?_eq_some_iff.1 h).2
  rw [← he, ← List.drop_eq_getElem_cons hk, List.take_append_drop]
theorem dropCl_sub {p : Pl} {k : Nat} {c d : Cl} (h : p.clauses[k]? = some c) : d ∈ p.clauses ↔ d ∈ (dropCl p k).clauses ∨ d = c := by
  have e : d ∈ p.clauses ↔ d ∈ p.clauses.take k ++ c :: p.clauses.drop (k + 1) := by rw [← split_at h]
  rw [e]
  unfold dropCl
  simp only [List.mem_append, List.mem_cons]
  constructor
  · rintro (h | h | h)
    · exact .inl (.inl h)
    · exact .inr h
    · exact .inl (.inr h)
  · rintro ((h | h) | h)
    · exact .inl h
    · exact .inr (.inr h)
    · exact .inr (.inl h)
theorem dropCl_next {p : Pl} {k : Nat} {c : Cl} (h : p.clauses[k]? = some c) (hs : c.strict = false) (l : List Int) : strictNext (dropCl p k) l = strictNext p l := by
  have e : ∀ f : Cl → Bool, p.clauses.find? f = (p.clauses.take k ++ c :: p.clauses.drop (k + 1)).find? f := fun f => by rw [← split_at h]
  unfold strictNext
  rw [e]
  unfold dropCl
  simp only [List.find?_append, List.find?_cons, hs, Bool.false_and]
theorem dropCl_strictL {p : Pl} {k : Nat} {c : Cl} (h : p.clauses[k]? = some c) (hs : c.strict = false) : ∀ n, strictL (dropCl p k) n = strictL p n
  | 0 => rfl
  | n + 1 => by
    have ih := dropCl_strictL h hs n
    show (match strictNext (dropCl p k) (strictL (dropCl p k) n) with | some c => strictL (dropCl p k) n ++ [c.thn] | none => strictL (dropCl p k) n) = (match strictNext p (strictL p n) with | some c => strictL p n ++ [c.thn] | none => strictL p n)
    rw [ih, dropCl_next h hs]
theorem dropCl_len {p : Pl} {k : Nat} {c : Cl} (h : p.clauses[k]? = some c) : (dropCl p k).clauses.length + 1 = p.clauses.length := by
  have hk := (List.getElem?_eq_some_iff.1 h).1
  unfold dropCl
  simp
  omega
theorem dropCl_strict {p : Pl} {k : Nat} {c : Cl} (h : p.clauses[k]? = some c) (hs : c.strict = false) : strictOf (dropCl p k) = strictOf p := by
  have h1 := strictOf_closed (dropCl p k)
  have h2 := dropCl_len h
  rw [dropCl_next h hs] at h1
  unfold strictOf at h1 ⊢
  rw [dropCl_strictL h hs] at h1 ⊢
  rw [← h2, strictL_stays h1 1]
theorem dropCl_right {p : Pl} {k : Nat} {c : Cl} {S : Int → Bool} {K : Known} {x : Rs} (h : p.clauses[k]? = some c) (hon : onB K c = false) (hr : Right p S K x) : Right (dropCl p k) S K x := by
  have out : ∀ d ∈ p.clauses, onB K d = true → d ∈ (dropCl p k).clauses := fun d hd ho => by
    rcases (dropCl_sub h).1 hd with hd | rfl
    · exact hd
    · rw [hon] at ho; cases ho
  have inn : ∀ d ∈ (dropCl p k).clauses, d ∈ p.clauses := fun d hd => (dropCl_sub h).2 (.inl hd)
  refine ⟨fun e => ?_, fun e => ?_⟩
  · rcases hr.1 e with h1 | ⟨h1, ⟨d, hd, e1, e2⟩, h2⟩
    · exact .inl h1
    · refine .inr ⟨h1, ⟨d, out d hd e2, e1, e2⟩, fun s hs e3 e4 => ?_⟩
      obtain ⟨d, hd, e5, e6, e7⟩ := h2 s (inn s hs) e3 e4
      exact ⟨d, out d hd e6, e5, e6, e7⟩
  · obtain ⟨h1, h2 | h2 | ⟨s, hs, e1, e2, h3⟩⟩ := hr.2 e
    · exact ⟨h1, .inl h2⟩
    · exact ⟨h1, .inr (.inl fun d hd => h2 d (inn d hd))⟩
    · exact ⟨h1, .inr (.inr ⟨s, out s hs e2, e1, e2, fun d hd => h3 d (inn d hd)⟩)⟩
theorem dropCl_back {p : Pl} {k : Nat} {c : Cl} {S : Int → Bool} {K : Known} {x : Rs} (h : p.clauses[k]? = some c) (hoff : offB K c = true) (hr : Right (dropCl p k) S K x) : Right p S K x := by
  have inn : ∀ d ∈ (dropCl p k).clauses, d ∈ p.clauses := fun d hd => (dropCl_sub h).2 (.inl hd)
  have out : ∀ d ∈ p.clauses, offB K d = false → d ∈ (dropCl p k).clauses := fun d hd ho => by
    rcases (dropCl_sub h).1 hd with hd | rfl
    · exact hd
    · rw [hoff] at ho; cases ho
  refine ⟨fun e => ?_, fun e => ?_⟩
  · rcases hr.1 e with h1 | ⟨h1, ⟨d, hd, e1, e2⟩, h2⟩
    · exact .inl h1
    · refine .inr ⟨h1, ⟨d, inn d hd, e1, e2⟩, fun s hs e3 e4 => ?_⟩
      obtain ⟨d, hd, e5, e6, e7⟩ := h2 s (out s hs e4) e3 e4
      exact ⟨d, inn d hd, e5, e6, e7⟩
  · obtain ⟨h1, h2 | h2 | ⟨s, hs, e1, e2, h3⟩⟩ := hr.2 e
    · exact ⟨h1, .inl h2⟩
    · refine ⟨h1, .inr (.inl fun d hd e3 => ?_)⟩
      cases ho : offB K d with
      | true => rfl
      | false => have := h2 d (out d hd ho) e3; rw [ho] at this; cases this
    · exact ⟨h1, .inr (.inr ⟨s, inn s hs, e1, e2, fun d hd e3 e4 => h3 d (out d hd e4) e3 e4⟩)⟩
theorem deriveN_leOf {p : Pl} {S : Int → Bool} {L : List Int} (hN : L.Nodup) (hL : L.length ≤ 64) (n : Nat) : KLe (deriveN p S L n).2 (deriveOf p S L).2 :=
  derive_le (p := p) (p' := p) (S := S) (S' := S) (f := id) (fun _ => rfl) hN hN hL (fun _ h => h) (fun _ _ _ h => h) n
theorem dropCl_known {p : Pl} {k : Nat} {c : Cl} {S : Int → Bool} {L : List Int} (hN : L.Nodup) (hL : L.length ≤ 64) (h : p.clauses[k]? = some c) (hoff : offB (deriveOf p S L).2 c = true) : (deriveOf (dropCl p k) S L).2 = (deriveOf p S L).2 := by
  have hle : ∀ n, KLe (deriveN (dropCl p k) S L n).2 (deriveOf p S L).2 := by
    intro n
    induction n with
    | zero => exact fun q h => absurd rfl h
    | succ n ih =>
      intro q hq
      by_cases hm : q ∈ (roundOf (dropCl p k) S (deriveN (dropCl p k) S L n).2 L).map Rs.lit
      · obtain ⟨x, hx, rfl⟩ := List.mem_map.1 hm
        obtain ⟨h1, h2, h3⟩ := roundOf_mem hx
        have hs := derive_says hN hL (KLe.refl _) h1 (dropCl_back h hoff (h3.mono ih))
        have e2 : (deriveN (dropCl p k) S L (n + 1)).2 x.lit = if x.proved then 1 else 2 := learnAll_at _ _ (roundOf_nodup hN) x hx
        rw [hs, e2]
      · have e : (deriveN (dropCl p k) S L (n + 1)).2 q = (deriveN (dropCl p k) S L n).2 q := learnAll_out _ _ _ hm
        rw [e] at hq ⊢
        exact ih q hq
  have hge : ∀ n, KLe (deriveN p S L n).2 (deriveOf (dropCl p k) S L).2 :=
    derive_le (p := p) (p' := dropCl p k) (S := S) (S' := S) (f := id) (fun _ => rfl) hN hN hL (fun _ h => h) (fun n x _ hr => by
      refine dropCl_right h ?_ hr
      obtain ⟨q, hq, hq2⟩ := offB_iff.1 hoff
      cases hon : onB (fun q => (deriveN p S L n).2 (id q)) c with
      | false => rfl
      | true =>
        have h1 := onB_iff.1 hon q hq
        have := deriveN_leOf (p := p) (S := S) hN hL n q (by show _ ≠ _; simp only [id] at h1; rw [h1]; decide)
        simp only [id] at h1
        rw [h1, hq2] at this
        cases this)
  have e1 : KLe (deriveOf (dropCl p k) S L).2 (deriveOf p S L).2 := hle 65
  have e2 : KLe (deriveOf p S L).2 (deriveOf (dropCl p k) S L).2 := hge 65
  exact e1.eq e2
theorem okFrom_last : ∀ (l : List Cl) (ok : Bool) (a b : Int), a ≤ b → okFrom ok b l = true → okFrom ok a l = true
  | [], _, _, _, _, h => h
  | c :: r, ok, a, b, hab, h => by
    have h1 := (okFrom_true r _ _ h).1
    rw [Bool.and_eq_true] at h1
    have h2 : okCl a c = okCl b c := by
      have := h1.2
      unfold okCl at this ⊢
      simp only [Bool.and_eq_true, decide_eq_true_eq] at this
      have e1 : decide (a < c.no) = true := by rw [decide_eq_true_eq]; omega
      have e2 : decide (b < c.no) = true := by rw [decide_eq_true_eq]; omega
      rw [e1, e2]
    show okFrom (ok && okCl a c) c.no r = true
    rw [h2]
    exact h
theorem okFrom_drop1 : ∀ (l : List Cl) (k : Nat) (ok : Bool) (last : Int), okFrom ok last l = true → okFrom ok last (l.take k ++ l.drop (k + 1)) = true
  | [], k, _, _, h => by simpa using h
  | c :: r, 0, ok, last, h => by
    have h1 := (okFrom_true r _ _ h).1
    rw [Bool.and_eq_true] at h1
    have h2 : last ≤ c.no := by
      have := h1.2
      unfold okCl at this
      simp only [Bool.and_eq_true, decide_eq_true_eq] at this
      omega
    have h3 : okFrom (ok && okCl last c) c.no r = true := h
    rw [h1.1, h1.2] at h3
    show okFrom ok last r = true
    rw [h1.1]
    exact okFrom_last r _ _ _ h2 h3
  | c :: r, k + 1, ok, last, h => okFrom_drop1 r k _ _ h
theorem dropCl_check {p : Pl} {k : Nat} {c : Cl} {L : List Int} (h : p.clauses[k]? = some c) (hs : c.strict = false) (hc : checkB L p = 0) : checkB L (dropCl p k) = 0 := by
  have hl := dropCl_len h
  have e3 : clashB (dropCl p k) = clashB p := funext fun q => by unfold clashB; rw [dropCl_strict h hs]
  have hc0 := hc
  unfold checkB at hc ⊢
  split at hc
  · cases hc
  · rename_i h1
    split at hc
    · cases hc
    · rename_i h2
      have e1 : limitB (dropCl p k) = false := by
        simp only [limitB, Bool.or_eq_true, not_or, decide_eq_true_eq, Bool.not_eq_true, List.any_eq_false] at h1
        unfold limitB
        rw [Bool.or_eq_false_iff, Bool.or_eq_false_iff, decide_eq_false_iff_not, decide_eq_false_iff_not, List.any_eq_false]
        refine ⟨⟨h1.1.1, by have := h1.1.2; omega⟩, fun d hd => ?_⟩
        have := h1.2 d ((dropCl_sub h).2 (.inl hd))
        simpa using this
      have e2 : okFrom (risingB p.facts) (-1) (dropCl p k).clauses = true := okFrom_drop1 _ k _ _ (by simpa using h2)
      have e4 : (dropCl p k).facts = p.facts := rfl
      rw [e1, e4, e2, e3, if_neg (by decide), if_neg (by decide)]
      exact hc
end Go.Proofs.Ythdgmimhaidmnaa
