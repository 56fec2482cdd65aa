/- Plain laws: what a valid plea's derivation says. -/
import Derived.Test.YthdgmimhaidmnaaPure3
namespace Go.Proofs.Ythdgmimhaidmnaa
set_option linter.unusedSimpArgs false
set_option linter.unusedVariables false

theorem rising_lit : ∀ (l : List Int) (o : Option Int), risingFrom o l = true → ∀ q ∈ l, litB q = true
  | [], _, _, q, hq => by cases hq
  | x :: r, o, h, q, hq => by
    simp only [risingFrom, Bool.and_eq_true] at h
    rcases List.mem_cons.1 hq with rfl | hq
    · exact h.1.1
    · exact rising_lit r _ h.2 q hq
theorem okFrom_true : ∀ (l : List Cl) (ok : Bool) (last : Int), okFrom ok last l = true → ok = true ∧ ∀ c ∈ l, litB c.thn = true ∧ c.no ≤ 1048576 ∧ 0 ≤ c.rank ∧ c.rank ≤ 1048576 ∧ risingB c.ifs = true
  | [], ok, _, h => ⟨h, fun c hc => by cases hc⟩
  | c :: r, ok, last, h => by
    obtain ⟨h1, h2⟩ := okFrom_true r _ _ h
    rw [Bool.and_eq_true] at h1
    simp only [okCl, Bool.and_eq_true, decide_eq_true_eq] at h1
    refine ⟨h1.1, fun d hd => ?_⟩
    rcases List.mem_cons.1 hd with rfl | hd
    · exact ⟨h1.2.1.1.1.2, h1.2.1.1.1.1.2, h1.2.1.1.2, h1.2.1.2, h1.2.2⟩
    · exact h2 d hd

structure Valid (L : List Int) (p : Pl) : Prop where
  facts : ∀ q ∈ p.facts, litB q = true
  cls : ∀ c ∈ p.clauses, litB c.thn = true ∧ c.no ≤ 1048576 ∧ 0 ≤ c.rank ∧ c.rank ≤ 1048576 ∧ risingB c.ifs = true
  clash : ∀ q ∈ L, (strictOf p).contains q = true → (strictOf p).contains (-q) = false
theorem check_valid {L : List Int} {p : Pl} (h : checkB L p = 0) : Valid L p := by
  unfold checkB at h
  split at h
  · cases h
  · split at h
    · cases h
    · rename_i _ h2
      split at h
      · cases h
      · rename_i h3
        have h2' : okFrom (risingB p.facts) (-1) p.clauses = true := by simpa using h2
        obtain ⟨k1, k2⟩ := okFrom_true _ _ _ h2'
        refine ⟨rising_lit _ _ k1, k2, fun q hq hs => ?_⟩
        cases hn : (strictOf p).contains (-q) with
        | false => rfl
        | true => exact absurd (List.any_eq_true.2 ⟨q, hq, by unfold clashB; rw [hs, hn]; rfl⟩) h3
theorem strictL_lit {p : Pl} (hf : ∀ q ∈ p.facts, litB q = true) (hc : ∀ c ∈ p.clauses, litB c.thn = true) : ∀ n, ∀ q ∈ strictL p n, litB q = true
  | 0, q, hq => hf q hq
  | n + 1, q, hq => by
    unfold strictL at hq
    split at hq
    · rename_i c hcc
      rcases List.mem_append.1 hq with hq | hq
      · exact strictL_lit hf hc n q hq
      · rw [List.mem_singleton] at hq
        subst hq
        exact hc c (List.mem_of_find?_eq_some hcc)
    · exact strictL_lit hf hc n q hq
theorem Valid.strict_lit {L : List Int} {p : Pl} (h : Valid L p) {q : Int} (hq : (strictOf p).contains q = true) : litB q = true :=
  strictL_lit h.facts (fun c hc => (h.cls c hc).1) _ q (List.contains_iff_mem.1 hq)

/-- What is strict is proved. -/
theorem strict_says {p : Pl} {S : Int → Bool} {L : List Int} (hN : L.Nodup) (hL : L.length ≤ 64) {q : Int} (hq : q ∈ L) (hs : S q = true) : (deriveOf p S L).2 q = 1 := by
  have := derive_says (p := p) (S := S) hN hL (KLe.refl _) (x := ⟨q, 0, true⟩) hq ⟨fun _ => .inl hs, fun h => by cases h⟩
  simpa using this
/-- The opposite of what is strict is refuted. -/
theorem strict_refuted {p : Pl} {S : Int → Bool} {L : List Int} (hN : L.Nodup) (hL : L.length ≤ 64) {q : Int} (hq : -q ∈ L) (hs : S q = true) (hn : S (-q) = false) : (deriveOf p S L).2 (-q) = 2 := by
  have := derive_says (p := p) (S := S) hN hL (KLe.refl _) (x := ⟨-q, 0, false⟩) hq ⟨fun h => (by cases h), fun _ => ⟨hn, .inl (by show S (- -q) = true; rw [Int.neg_neg]; exact hs)⟩⟩
  simpa using this

/-- Of a list of clauses, one that has a property and the greatest rank. -/
theorem max_rank (f : Cl → Prop) : ∀ (l : List Cl), (∃ c ∈ l, f c) → ∃ c ∈ l, f c ∧ ∀ d ∈ l, f d → ¬ c.rank < d.rank
  | [], h => by obtain ⟨c, hc, _⟩ := h; cases hc
  | x :: r, h => by
    by_cases hr : ∃ c ∈ r, f c
    · obtain ⟨c, hc, hf, hm⟩ := max_rank f r hr
      by_cases hx : f x ∧ c.rank < x.rank
      · refine ⟨x, by simp, hx.1, fun d hd hfd => ?_⟩
        rcases List.mem_cons.1 hd with rfl | hd
        · omega
        · have := hm d hd hfd; omega
      · refine ⟨c, by simp [hc], hf, fun d hd hfd => ?_⟩
        rcases List.mem_cons.1 hd with rfl | hd
        · exact fun hlt => hx ⟨hfd, hlt⟩
        · exact hm d hd hfd
    · obtain ⟨c, hc, hf⟩ := h
      have hcx : c = x := by
        rcases List.mem_cons.1 hc with rfl | hc
        · rfl
        · exact absurd ⟨c, hc, hf⟩ hr
      subst hcx
      refine ⟨c, by simp, hf, fun d hd hfd => ?_⟩
      rcases List.mem_cons.1 hd with rfl | hd
      · omega
      · exact absurd ⟨d, hd, hfd⟩ hr

/-- A literal and its opposite are not both proved, if they are not both strict. -/
theorem not_both {p : Pl} {S : Int → Bool} {K : Known} {q : Int} (hc : S q = true → S (-q) = false) (h1 : Proves p S K q) (h2 : Proves p S K (-q)) : False := by
  rcases h1 with h1 | ⟨h1, ⟨c, hcm, he, ho⟩, hb⟩
  · rcases h2 with h2 | ⟨h2, _⟩
    · rw [hc h1] at h2; cases h2
    · rw [Int.neg_neg, h1] at h2; cases h2
  · rcases h2 with h2 | ⟨_, ⟨s, hsm, hse, hso⟩, hb2⟩
    · rw [h2] at h1; cases h1
    · -- of all clauses for either that are on, one with the greatest rank
      obtain ⟨m, hm, hmf, hmax⟩ := max_rank (fun d => (d.thn = q ∨ d.thn = -q) ∧ onB K d = true) p.clauses ⟨c, hcm, .inl he, ho⟩
      rcases hmf.1 with e | e
      · obtain ⟨d, hd, hde, hdo, hlt⟩ := hb2 m hm (by rw [e, Int.neg_neg]) (on_not_off hmf.2)
        exact hmax d hd ⟨.inr hde, hdo⟩ hlt
      · obtain ⟨d, hd, hde, hdo, hlt⟩ := hb m hm e (on_not_off hmf.2)
        exact hmax d hd ⟨.inl hde, hdo⟩ hlt
theorem proved_one {p : Pl} {S : Int → Bool} {L : List Int} (hN : L.Nodup) (hc : ∀ q ∈ L, S q = true → S (-q) = false) {q : Int} (h1 : (deriveOf p S L).2 q = 1) (h2 : (deriveOf p S L).2 (-q) = 1) : False := by
  have hj := derive_just (p := p) (S := S) hN
  have hq : q ∈ L := derive_in (by rw [h1]; decide)
  have p1 : Proves p S (deriveOf p S L).2 q := by
    rcases hj q (by rw [h1]; decide) with ⟨_, h⟩ | ⟨h, _⟩
    · exact h
    · rw [h1] at h; cases h
  have p2 : Proves p S (deriveOf p S L).2 (-q) := by
    rcases hj (-q) (by rw [h2]; decide) with ⟨_, h⟩ | ⟨h, _⟩
    · exact h
    · rw [h2] at h; cases h
  exact not_both (hc q hq) p1 p2
theorem derive_range {p : Pl} {S : Int → Bool} {L : List Int} (hN : L.Nodup) (q : Int) : (deriveOf p S L).2 q = 0 ∨ (deriveOf p S L).2 q = 1 ∨ (deriveOf p S L).2 q = 2 := by
  by_cases h : (deriveOf p S L).2 q = 0
  · exact .inl h
  · rcases derive_just (p := p) (S := S) hN q h with ⟨h, _⟩ | ⟨h, _⟩
    · exact .inr (.inl h)
    · exact .inr (.inr h)

/-! ### The list that is derived -/
theorem deriveN_list {p : Pl} {S : Int → Bool} {L : List Int} (hN : L.Nodup) : ∀ n, ((deriveN p S L n).1.map Rs.lit).Nodup ∧ (∀ x ∈ (deriveN p S L n).1, (deriveN p S L n).2 x.lit = if x.proved then 1 else 2) ∧ ∀ q, (deriveN p S L n).2 q ≠ 0 → q ∈ (deriveN p S L n).1.map Rs.lit
  | 0 => ⟨List.nodup_nil, fun x hx => (by cases hx), fun q h => absurd rfl h⟩
  | n + 1 => by
    obtain ⟨h1, h2, h3⟩ := deriveN_list hN n
    have hR := roundOf_nodup (p := p) (S := S) (K := (deriveN p S L n).2) hN
    have hle := deriveN_le (p := p) (S := S) hN n
    have h0 : ∀ x ∈ (deriveN p S L n).1, (deriveN p S L n).2 x.lit ≠ 0 := fun x hx => by rw [h2 x hx]; split <;> decide
    refine ⟨?_, ?_, ?_⟩
    · show (((deriveN p S L n).1 ++ roundOf p S (deriveN p S L n).2 L).map Rs.lit).Nodup
      rw [List.map_append, List.nodup_append]
      refine ⟨h1, hR, fun a ha b hb e => ?_⟩
      subst e
      obtain ⟨x, hx, rfl⟩ := List.mem_map.1 ha
      obtain ⟨y, hy, e⟩ := List.mem_map.1 hb
      exact h0 x hx (by rw [← e]; exact (roundOf_mem hy).2.1)
    · intro x hx
      rcases List.mem_append.1 (show x ∈ (deriveN p S L n).1 ++ roundOf p S (deriveN p S L n).2 L from hx) with hx | hx
      · rw [hle _ (h0 x hx), h2 x hx]
      · exact learnAll_at _ _ hR x hx
    · intro q hq
      show q ∈ ((deriveN p S L n).1 ++ roundOf p S (deriveN p S L n).2 L).map Rs.lit
      rw [List.map_append, List.mem_append]
      by_cases hm : q ∈ (roundOf p S (deriveN p S L n).2 L).map Rs.lit
      · exact .inr hm
      · have e : (deriveN p S L (n + 1)).2 q = (deriveN p S L n).2 q := learnAll_out _ _ _ hm
        rw [e] at hq
        exact .inl (h3 q hq)
theorem idxFrom_found {α : Type} {f : α → Bool} : ∀ {l : List α} {k : Nat}, (∃ x ∈ l, f x = true) → ∃ i x, idxFrom f l k = ((k + i : Nat) : Int) ∧ l[i]? = some x ∧ f x = true
  | [], _, h => by obtain ⟨x, hx, _⟩ := h; cases hx
  | y :: r, k, h => by
    by_cases hy : f y = true
    · exact ⟨0, y, by unfold idxFrom; rw [if_pos hy]; simp, rfl, hy⟩
    · obtain ⟨x, hx, hfx⟩ := h
      have hr : ∃ x ∈ r, f x = true := by
        rcases List.mem_cons.1 hx with rfl | hx
        · exact absurd hfx hy
        · exact ⟨x, hx, hfx⟩
      obtain ⟨i, z, e, hz, hf⟩ := idxFrom_found (k := k + 1) hr
      refine ⟨i + 1, z, ?_, by simpa using hz, hf⟩
      unfold idxFrom
      rw [if_neg hy, e]
      congr 1; omega
/-- What a round gives follows, by whatever is known more, if it is not known yet. -/
theorem rsOf_follows {p : Pl} {S : Int → Bool} {K K' : Known} {q : Int} {x : Rs} (h : rsOf p S K q = some x) (hq : litB q = true) (hk : KLe K K') (h0 : K' q = 0) : followsB p S K' x = true := by
  unfold rsOf at h
  split at h
  · cases h
  · split at h
    · rename_i hs; cases h
      unfold followsB
      simp [hq, h0, hs]
    · rename_i hns
      split at h
      · rename_i hp; cases h
        have hpr := provesB_iff.1 hp
        rcases hpr with hs | ⟨_, ⟨c, hc, he, ho⟩, _⟩
        · exact absurd hs hns
        · obtain ⟨i, d, e, hd, hf⟩ := idxFrom_found (f := fun c => c.thn == q && onB K c) (k := 0) ⟨c, hc, by simp [he, ho]⟩
          have hlt : i < p.clauses.length := (List.getElem?_eq_some_iff.1 hd).1
          simp only [Bool.and_eq_true, beq_iff_eq] at hf
          have hcl : clauseB p K q = ((i + 1 : Nat) : Int) := by unfold clauseB; rw [e]; simp; omega
          have hp2 := provesB_iff.2 ((provesB_iff.1 hp).mono hk)
          unfold followsB
          rw [if_neg]
          · rw [if_neg (by simp), if_neg (by rw [hcl]; simp; omega)]
            simp only [hcl]
            have e1 : (((i + 1 : Nat) : Int) - 1).toNat = i := by omega
            rw [e1, hd]
            simp [hf.1, onB_mono hk hf.2, hp2]
          · simp only [hcl, hq, h0]
            simp
            omega
      · split at h
        · rename_i hr; cases h
          unfold followsB
          have hr2 := refutesB_iff.2 ((refutesB_iff.1 hr).mono hk)
          simp [hq, h0, hr2]
        · cases h
theorem accepts_round {p : Pl} {S : Int → Bool} {K : Known} : ∀ (R : List Rs) (K' : Known) (r : List Rs), (∀ x ∈ R, litB x.lit = true ∧ rsOf p S K x.lit = some x ∧ K' x.lit = 0) → (R.map Rs.lit).Nodup → KLe K K' → acceptsFrom p S (learnAll K' R) r = true → acceptsFrom p S K' (R ++ r) = true
  | [], _, _, _, _, _, h => h
  | x :: R, K', r, hR, hn, hk, h => by
    obtain ⟨h1, h2, h3⟩ := hR x (by simp)
    rw [List.map_cons, List.nodup_cons] at hn
    show (followsB p S K' x && acceptsFrom p S (learnK K' x.lit x.proved) (R ++ r)) = true
    rw [rsOf_follows h2 h1 hk h3, Bool.true_and]
    refine accepts_round R _ r (fun y hy => ?_) hn.2 (hk.trans (learnK_le h3)) h
    obtain ⟨k1, k2, k3⟩ := hR y (by simp [hy])
    refine ⟨k1, k2, ?_⟩
    unfold learnK
    rw [if_neg (fun e => hn.1 (by rw [← e]; exact List.mem_map_of_mem hy))]
    exact k3
theorem accepts_derived {p : Pl} {S : Int → Bool} {L : List Int} (hN : L.Nodup) (hM : ∀ q ∈ L, litB q = true) : ∀ n r, acceptsFrom p S (deriveN p S L n).2 r = true → acceptsFrom p S (fun _ => 0) ((deriveN p S L n).1 ++ r) = true
  | 0, _, h => h
  | n + 1, r, h => by
    show acceptsFrom p S (fun _ => 0) (((deriveN p S L n).1 ++ roundOf p S (deriveN p S L n).2 L) ++ r) = true
    rw [List.append_assoc]
    refine accepts_derived hN hM n _ (accepts_round _ _ r (fun x hx => ?_) (roundOf_nodup hN) (KLe.refl _) h)
    obtain ⟨q, hq, hqx⟩ := List.mem_filterMap.1 hx
    obtain ⟨rfl, h0⟩ := rsOf_lit hqx
    exact ⟨hM _ hq, hqx, h0⟩
theorem derive_accepted {p : Pl} {S : Int → Bool} {L : List Int} (hN : L.Nodup) (hM : ∀ q ∈ L, litB q = true) : acceptsFrom p S (fun _ => 0) (deriveOf p S L).1 = true := by
  have := accepts_derived (p := p) (S := S) hN hM 65 [] rfl
  rwa [List.append_nil] at this
end Go.Proofs.Ythdgmimhaidmnaa
