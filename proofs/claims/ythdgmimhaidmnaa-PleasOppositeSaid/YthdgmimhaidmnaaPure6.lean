/- Plain laws: all literals replaced by their opposites. -/
import Derived.Test.YthdgmimhaidmnaaPure5
namespace Go.Proofs.Ythdgmimhaidmnaa
set_option linter.unusedSimpArgs false
set_option linter.unusedVariables false

/-- A list has the opposites of another one's numbers. -/
def Opp (l l' : List Int) : Prop := ∀ q, q ∈ l' ↔ -q ∈ l
theorem Opp.symm {l l' : List Int} (h : Opp l l') : Opp l' l := fun q => by rw [h (-q), Int.neg_neg]
theorem Opp.contains {l l' : List Int} (h : Opp l l') (q : Int) : l'.contains q = l.contains (-q) := bool_iff (by rw [List.contains_iff_mem, List.contains_iff_mem]; exact h q)
structure OppCl (c c' : Cl) : Prop where
  no : c'.no = c.no
  thn : c'.thn = -c.thn
  rank : c'.rank = c.rank
  strict : c'.strict = c.strict
  ifs : Opp c.ifs c'.ifs
theorem OppCl.symm {c c' : Cl} (h : OppCl c c') : OppCl c' c := ⟨h.no.symm, by rw [h.thn, Int.neg_neg], h.rank.symm, h.strict.symm, h.ifs.symm⟩
structure OppPl (p p' : Pl) : Prop where
  facts : Opp p.facts p'.facts
  cls : ∃ h : Cl → Cl, p'.clauses = p.clauses.map h ∧ ∀ c ∈ p.clauses, OppCl c (h c)
theorem OppCl.any {c c' : Cl} (h : OppCl c c') {f g : Int → Bool} (hf : ∀ q, g q = f (-q)) : c'.ifs.any g = c.ifs.any f := by
  refine bool_iff ?_
  rw [List.any_eq_true, List.any_eq_true]
  constructor
  · rintro ⟨q, hq, hg⟩; exact ⟨-q, (h.ifs q).1 hq, by rw [← hf]; exact hg⟩
  · rintro ⟨q, hq, hg⟩; exact ⟨-q, (h.ifs (-q)).2 (by rw [Int.neg_neg]; exact hq), by rw [hf, Int.neg_neg]; exact hg⟩
theorem OppPl.next {p p' : Pl} (h : OppPl p p') {l l' : List Int} (hl : Opp l l') : (strictNext p l = none ∧ strictNext p' l' = none) ∨ ∃ c c', strictNext p l = some c ∧ strictNext p' l' = some c' ∧ OppCl c c' := by
  obtain ⟨g, hg, hc⟩ := h.cls
  have e : strictNext p' l' = (strictNext p l).map g := by
    unfold strictNext
    rw [hg, List.find?_map]
    congr 1
    have : ∀ (cs : List Cl), (∀ c ∈ cs, OppCl c (g c)) → List.find? ((fun c => c.strict && !l'.contains c.thn && !c.ifs.any fun q => !l'.contains q) ∘ g) cs = List.find? (fun c => c.strict && !l.contains c.thn && !c.ifs.any fun q => !l.contains q) cs := by
      intro cs
      induction cs with
      | nil => intro _; rfl
      | cons c r ih =>
        intro hcs
        have ho := hcs c (by simp)
        have e1 : ((fun c : Cl => c.strict && !l'.contains c.thn && !c.ifs.any fun q => !l'.contains q) ∘ g) c = (fun c : Cl => c.strict && !l.contains c.thn && !c.ifs.any fun q => !l.contains q) c := by
          show ((g c).strict && !l'.contains (g c).thn && !(g c).ifs.any fun q => !l'.contains q) = _
          rw [ho.strict, hl.contains, ho.thn, Int.neg_neg, ho.any (f := fun q => !l.contains q) (fun q => by rw [hl.contains])]
        rw [List.find?_cons, List.find?_cons, e1, ih (fun d hd => hcs d (by simp [hd]))]
    exact this _ hc
  cases hn : strictNext p l with
  | none => rw [hn] at e; exact .inl ⟨rfl, e⟩
  | some c => rw [hn] at e; exact .inr ⟨c, g c, rfl, e, hc c (List.mem_of_find?_eq_some hn)⟩
theorem OppPl.strictL {p p' : Pl} (h : OppPl p p') : ∀ n, Opp (Go.Proofs.Ythdgmimhaidmnaa.strictL p n) (Go.Proofs.Ythdgmimhaidmnaa.strictL p' n)
  | 0 => h.facts
  | n + 1 => by
    have ih := h.strictL n
    unfold Go.Proofs.Ythdgmimhaidmnaa.strictL
    rcases h.next ih with ⟨e1, e2⟩ | ⟨c, c', e1, e2, ho⟩
    · rw [e1, e2]; exact ih
    · rw [e1, e2]
      intro q
      dsimp only
      rw [List.mem_append, List.mem_append, List.mem_singleton, List.mem_singleton, ih q, ho.thn]
      exact or_congr Iff.rfl ⟨fun e => by omega, fun e => by omega⟩
theorem OppPl.strict {p p' : Pl} (h : OppPl p p') : Opp (strictOf p) (strictOf p') := by
  have e : p'.clauses.length = p.clauses.length := by obtain ⟨g, hg, _⟩ := h.cls; rw [hg, List.length_map]
  unfold strictOf
  rw [e]
  exact h.strictL _
theorem OppPl.mem {p p' : Pl} (h : OppPl p p') : (∀ c ∈ p.clauses, ∃ c' ∈ p'.clauses, OppCl c c') ∧ ∀ c' ∈ p'.clauses, ∃ c ∈ p.clauses, OppCl c c' := by
  obtain ⟨g, hg, hc⟩ := h.cls
  rw [hg]
  refine ⟨fun c hcm => ⟨g c, List.mem_map_of_mem hcm, hc c hcm⟩, fun c' hcm => ?_⟩
  obtain ⟨c, h1, rfl⟩ := List.mem_map.1 hcm
  exact ⟨c, h1, hc c h1⟩
theorem OppCl.on {c c' : Cl} (h : OppCl c c') (K : Known) : onB (fun q => K (-q)) c' = onB K c := by
  unfold onB; rw [h.any (f := fun q => K q != 1) (fun q => rfl)]
theorem OppCl.off {c c' : Cl} (h : OppCl c c') (K : Known) : offB (fun q => K (-q)) c' = offB K c := by
  unfold offB; rw [h.any (f := fun q => K q == 2) (fun q => rfl)]
theorem opp_right {p p' : Pl} {S : Int → Bool} {K : Known} {x : Rs} (h1 : ∀ c ∈ p.clauses, ∃ c' ∈ p'.clauses, OppCl c c') (h2 : ∀ c' ∈ p'.clauses, ∃ c ∈ p.clauses, OppCl c c') (hr : Right p S K x) : Right p' (fun q => S (-q)) (fun q => K (-q)) ⟨-x.lit, x.clause, x.proved⟩ := by
  refine ⟨fun e => ?_, fun e => ?_⟩
  · rcases hr.1 e with h | ⟨h, ⟨c, hc, e1, e2⟩, h3⟩
    · exact .inl (by show S (- -x.lit) = true; rw [Int.neg_neg]; exact h)
    · obtain ⟨c', hc', ho⟩ := h1 c hc
      refine .inr ⟨by show S (- - -x.lit) = false; rw [Int.neg_neg]; exact h, ⟨c', hc', by rw [ho.thn, e1], by rw [ho.on]; exact e2⟩, fun s' hs' e3 e4 => ?_⟩
      obtain ⟨s, hs, hso⟩ := h2 s' hs'
      have e5 : s.thn = -x.lit := by have := hso.thn; dsimp only at e3; omega
      obtain ⟨d, hd, e6, e7, e8⟩ := h3 s hs e5 (by rw [← hso.off]; exact e4)
      obtain ⟨d', hd', hdo⟩ := h1 d hd
      exact ⟨d', hd', by rw [hdo.thn, e6], by rw [hdo.on]; exact e7, by rw [hdo.rank, hso.rank]; exact e8⟩
  · obtain ⟨h, h3⟩ := hr.2 e
    refine ⟨by show S (- -x.lit) = false; rw [Int.neg_neg]; exact h, ?_⟩
    rcases h3 with h3 | h3 | ⟨s, hs, e1, e2, h3⟩
    · exact .inl (by show S (- - -x.lit) = true; rw [Int.neg_neg]; exact h3)
    · refine .inr (.inl fun c' hc' e3 => ?_)
      obtain ⟨c, hc, ho⟩ := h2 c' hc'
      rw [ho.off]
      exact h3 c hc (by have := ho.thn; dsimp only at e3; omega)
    · obtain ⟨s', hs', hso⟩ := h1 s hs
      refine .inr (.inr ⟨s', hs', by rw [hso.thn, e1], by rw [hso.on]; exact e2, fun c' hc' e3 e4 => ?_⟩)
      obtain ⟨c, hc, ho⟩ := h2 c' hc'
      rw [ho.rank, hso.rank]
      exact h3 c hc (by have := ho.thn; dsimp only at e3; omega) (by rw [← ho.off]; exact e4)
theorem OppPl.known {p p' : Pl} {S S' : Int → Bool} {L : List Int} (h : OppPl p p') (hS : ∀ q, S' q = S (-q)) (hN : L.Nodup) (hL : L.length ≤ 64) (hM : ∀ q ∈ L, -q ∈ L) (q : Int) : (deriveOf p' S' L).2 (-q) = (deriveOf p S L).2 q := by
  have eS : S' = fun q => S (-q) := funext hS
  have eS2 : S = fun q => S' (-q) := funext fun q => by rw [hS, Int.neg_neg]
  have a : KLe (fun q => (deriveOf p S L).2 (-q)) (deriveOf p' S' L).2 :=
    derive_le (p := p) (p' := p') (S := S) (S' := S') (f := fun q => -q) (fun q => Int.neg_neg q) hN hN hL hM (fun n x _ hr => by rw [eS]; exact opp_right h.mem.1 h.mem.2 hr) 65
  have b : KLe (fun q => (deriveOf p' S' L).2 (-q)) (deriveOf p S L).2 :=
    derive_le (p := p') (p' := p) (S := S') (S' := S) (f := fun q => -q) (fun q => Int.neg_neg q) hN hN hL hM (fun n x _ hr => by
      rw [eS2]
      exact opp_right (fun c hc => by obtain ⟨d, hd, ho⟩ := h.mem.2 c hc; exact ⟨d, hd, ho.symm⟩) (fun c hc => by obtain ⟨d, hd, ho⟩ := h.mem.1 c hc; exact ⟨d, hd, ho.symm⟩) hr) 65
  by_cases hq : (deriveOf p S L).2 q = 0
  · by_cases hq' : (deriveOf p' S' L).2 (-q) = 0
    · rw [hq, hq']
    · have := b q hq'
      exact this.symm
  · have := a (-q) (by show (deriveOf p S L).2 (- -q) ≠ 0; rw [Int.neg_neg]; exact hq)
    rw [this]
    show (deriveOf p S L).2 (- -q) = _
    rw [Int.neg_neg]

/-! ### The opposites of a rising list, sorted, are rising -/
theorem litB_neg (q : Int) : litB (-q) = litB q := by
  refine bool_iff ?_
  simp only [litB, Bool.and_eq_true, decide_eq_true_eq, bne_iff_ne, ne_eq]
  omega
theorem rising_iff : ∀ (l : List Int) (o : Option Int), risingFrom o l = true ↔ (∀ q ∈ l, litB q = true) ∧ l.Pairwise (· < ·) ∧ ∀ y, o = some y → ∀ q ∈ l, y < q
  | [], o => by simp [risingFrom]
  | x :: r, o => by
    simp only [risingFrom, Bool.and_eq_true, rising_iff r (some x), List.pairwise_cons, List.mem_cons, forall_eq_or_imp]
    constructor
    · rintro ⟨⟨h1, h2⟩, h3, h4, h5⟩
      have h6 := h5 x rfl
      refine ⟨⟨h1, h3⟩, ⟨h6, h4⟩, fun y hy => ?_⟩
      subst hy
      simp only [decide_eq_true_eq] at h2
      exact ⟨h2, fun q hq => by have := h6 q hq; omega⟩
    · rintro ⟨⟨h1, h3⟩, ⟨h6, h4⟩, h7⟩
      refine ⟨⟨h1, ?_⟩, h3, h4, fun y hy => ?_⟩
      · cases o with
        | none => rfl
        | some y => exact decide_eq_true (h7 y rfl).1
      · cases hy; exact h6
theorem rising_neg {l l' : List Int} (h : risingB l = true) (hp : l'.Perm (l.map fun q => -q)) (hs : l'.Pairwise (· ≤ ·)) : risingB l' = true := by
  unfold risingB at h ⊢
  obtain ⟨h1, h2, _⟩ := (rising_iff l none).1 h
  refine (rising_iff l' none).2 ⟨fun q hq => ?_, ?_, fun y hy => by cases hy⟩
  · obtain ⟨y, hy, rfl⟩ := List.mem_map.1 (hp.mem_iff.1 hq)
    rw [litB_neg]
    exact h1 y hy
  · have hn : l'.Nodup := by
      rw [hp.nodup_iff]
      refine List.Pairwise.map _ (fun a b (hab : a < b) => ?_) h2
      show -a ≠ -b
      omega
    have := hs.and hn
    exact this.imp fun {a b} hab => by have := hab.1; have := hab.2; omega
theorem opp_perm {l l' : List Int} (hp : l'.Perm (l.map fun q => -q)) : Opp l l' := fun q => by
  rw [hp.mem_iff, List.mem_map]
  constructor
  · rintro ⟨y, hy, rfl⟩; rw [Int.neg_neg]; exact hy
  · intro h; exact ⟨-q, h, Int.neg_neg q⟩
theorem OppPl.check {p p' : Pl} {L : List Int} (h : OppPl p p') (hM : ∀ q ∈ L, -q ∈ L) (hc : checkB L p = 0) (hf : p'.facts.length = p.facts.length) (hr : risingB p'.facts = true) (hi : ∀ g : Cl → Cl, p'.clauses = p.clauses.map g → ∀ c ∈ p.clauses, (g c).ifs.length = c.ifs.length ∧ risingB (g c).ifs = true) : checkB L p' = 0 := by
  have hv := check_valid hc
  obtain ⟨g, hg, ho⟩ := h.cls
  have hi' := hi g hg
  have e0 := h.strict
  have hl : p'.clauses.length = p.clauses.length := by rw [hg, List.length_map]
  unfold checkB at hc ⊢
  split at hc
  · cases hc
  · rename_i h1
    split at hc
    · cases hc
    · rename_i h2
      split at hc
      · cases hc
      · rename_i h3
        have e1 : limitB p' = false := by
          simp only [limitB, Bool.or_eq_true, not_or, decide_eq_true_eq, Bool.not_eq_true, List.any_eq_false] at h1
          unfold limitB
          rw [Bool.or_eq_false_iff, Bool.or_eq_false_iff, decide_eq_false_iff_not, decide_eq_false_iff_not, List.any_eq_false, hf, hl]
          refine ⟨⟨h1.1.1, h1.1.2⟩, fun d hd => ?_⟩
          rw [hg] at hd
          obtain ⟨c, hcm, rfl⟩ := List.mem_map.1 hd
          have := h1.2 c hcm
          rw [(hi' c hcm).1]
          simpa using this
        have h2' : okFrom (risingB p.facts) (-1) p.clauses = true := by simpa using h2
        have e2 : okFrom (risingB p'.facts) (-1) p'.clauses = true := by
          rw [hr, hg]
          have := (okFrom_true _ _ _ h2').1
          rw [this] at h2'
          rw [okFrom_congr p.clauses g true (-1) fun c hcm => ⟨(ho c hcm).no, fun last => ?_⟩]
          · exact h2'
          · unfold okCl
            rw [(ho c hcm).no, (ho c hcm).thn, (ho c hcm).rank, litB_neg, (hi' c hcm).2, (hv.cls c hcm).2.2.2.2]
        have e3 : L.any (clashB p') = false := by
          rw [List.any_eq_false]
          intro q hq hcl
          refine h3 (List.any_eq_true.2 ⟨-q, hM q hq, ?_⟩)
          unfold clashB at hcl ⊢
          rw [e0.contains, e0.contains] at hcl
          exact hcl
        rw [e1, e2, e3]
        rfl
end Go.Proofs.Ythdgmimhaidmnaa
