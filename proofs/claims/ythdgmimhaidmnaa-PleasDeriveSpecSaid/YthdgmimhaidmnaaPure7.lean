/- The reference's lists in plain Lean: they know what the program's maps know. -/
import Derived.Test.YthdgmimhaidmnaaPure4
import Derived.Test.YthdgmimhaidmnaaPn
import Derived.Test.YthdgmimhaidmnaaQd
namespace Go.Proofs.Ythdgmimhaidmnaa
set_option linter.unusedSimpArgs false
set_option linter.unusedVariables false

/-- What lists say that are proved and refuted. -/
structure KR (K : Known) (P R : List Int) : Prop where
  p : ∀ q, P.contains q = (K q == 1)
  r : ∀ q, R.contains q = (K q == 2)
  z : ∀ q, K q = 0 ∨ K q = 1 ∨ K q = 2
theorem KR.nil : KR (fun _ => 0) [] [] := ⟨fun _ => rfl, fun _ => rfl, fun _ => .inl rfl⟩
theorem KR.on {K : Known} {P R : List Int} (h : KR K P R) (c : Cl) : onL P c = onB K c := by
  unfold onL onB
  rw [List.all_eq_not_any_not]
  congr 1
  congr 1
  funext q
  rw [h.p q]; rfl
theorem KR.off {K : Known} {P R : List Int} (h : KR K P R) (c : Cl) : offL R c = offB K c := by
  unfold offL offB
  congr 1
  funext q
  rw [h.r q]
theorem KR.onF {K : Known} {P R : List Int} (h : KR K P R) : onL P = onB K := funext h.on
theorem KR.offF {K : Known} {P R : List Int} (h : KR K P R) : offL R = offB K := funext h.off
theorem KR.proves {K : Known} {P R : List Int} (h : KR K P R) (p : Pl) {SL : List Int} {S : Int → Bool} (hS : ∀ q, SL.contains q = S q) {q : Int} (hq : S q = false) : provesL p SL P R q = provesB p S K q := by
  unfold provesL provesB
  rw [h.onF, h.offF, hS, hq]
  cases S (-q) <;> cases someB p q (onB K) <;> simp
theorem KR.refutes {K : Known} {P R : List Int} (h : KR K P R) (p : Pl) {SL : List Int} {S : Int → Bool} (hS : ∀ q, SL.contains q = S q) (q : Int) : refutesL p SL P R q = refutesB p S K q := by
  unfold refutesL refutesB
  rw [h.onF, h.offF, hS, hS]
theorem KR.known {K : Known} {P R : List Int} (h : KR K P R) (q : Int) : (P.contains q || R.contains q) = (K q != 0) := by
  rw [h.p, h.r]
  rcases h.z q with e | e | e <;> rw [e] <;> rfl
theorem KR.learn {K : Known} {P R : List Int} (h : KR K P R) (q : Int) (h0 : K q = 0) (pv : Bool) : KR (learnK K q pv) (if pv then P ++ [q] else P) (if pv then R else R ++ [q]) := by
  have hc : ∀ (L : List Int) (y : Int), (L ++ [q]).contains y = (L.contains y || y == q) := fun L y => by
    rw [List.contains_append]; congr 1; by_cases e : y = q
    · subst e; simp
    · have e2 : ¬ q = y := fun h => e h.symm
      simp [e]
  have hp := h.p q
  have hr := h.r q
  rw [h0] at hp hr
  refine ⟨fun y => ?_, fun y => ?_, fun y => ?_⟩ <;> unfold learnK <;> cases pv
  · by_cases e : y = q
    · subst e; simpa using hp
    · simp only [if_neg e, Bool.false_eq_true, if_false]; exact h.p y
  · by_cases e : y = q
    · subst e; simp
    · simp only [if_true]; rw [hc, h.p y]; simp [e]
  · by_cases e : y = q
    · subst e; simp
    · simp only [Bool.false_eq_true, if_false]; rw [hc, h.r y]; simp [e]
  · by_cases e : y = q
    · subst e; simpa using hr
    · simp only [if_neg e, if_true]; exact h.r y
  · by_cases e : y = q
    · simp [e]
    · simpa [e] using h.z y
  · by_cases e : y = q
    · simp [e]
    · simpa [e] using h.z y

/-- The reference's strict literals: closed under the strict clauses, and no more than they must. -/
theorem strict_least {p : Pl} {l : List Int} (hf : ∀ q ∈ p.facts, q ∈ l) (hc : ∀ c ∈ p.clauses, c.strict = true → c.ifs.all l.contains = true → l.contains c.thn = true) : ∀ n, ∀ q ∈ strictL p n, q ∈ l
  | 0, q, h => hf q h
  | n + 1, q, h => by
    have ih := strict_least hf hc n
    unfold strictL at h
    cases hn : strictNext p (strictL p n) with
    | none => rw [hn] at h; exact ih q h
    | some c =>
      rw [hn] at h
      rcases List.mem_append.1 h with h | h
      · exact ih q h
      · rw [List.mem_singleton] at h
        subst h
        unfold strictNext at hn
        have h1 := List.find?_some hn
        have h2 := List.mem_of_find?_eq_some hn
        simp only [Bool.and_eq_true, Bool.not_eq_true', List.any_eq_false, Bool.not_eq_true] at h1
        refine List.contains_iff_mem.1 (hc c h2 h1.1.1 (List.all_eq_true.2 fun x hx => List.contains_iff_mem.2 (ih x ?_)))
        have := h1.2 x hx
        exact List.contains_iff_mem.1 (by simpa using this)
theorem strict_facts (p : Pl) : ∀ n, ∀ q ∈ p.facts, q ∈ strictL p n
  | 0, _, h => h
  | n + 1, q, h => by
    have ih := strict_facts p n q h
    unfold strictL
    cases strictNext p (strictL p n) with
    | none => exact ih
    | some c => exact List.mem_append_left _ ih
/-- A clause that fires from strict literals gives a strict literal. -/
theorem strict_fires {p : Pl} {l : List Int} (hl : ∀ q ∈ l, (strictOf p).contains q = true) {c : Cl} (hm : c ∈ p.clauses) (hs : c.strict = true) (ha : c.ifs.all l.contains = true) : (strictOf p).contains c.thn = true := by
  have h := strictOf_closed p
  unfold strictNext at h
  rw [List.find?_eq_none] at h
  have h1 := h c hm
  rw [hs] at h1
  cases h2 : (strictOf p).contains c.thn with
  | true => rfl
  | false =>
    exfalso
    apply h1
    rw [h2]
    have h3 : (c.ifs.any fun q => !(strictOf p).contains q) = false := by
      rw [List.any_eq_false]
      intro x hx
      rw [hl x (List.contains_iff_mem.1 (List.all_eq_true.1 ha x hx))]
      simp
    rw [h3]; rfl
theorem strict_ref {p : Pl} {l : List Int} (hf : ∀ q ∈ p.facts, q ∈ l) (hl : ∀ q ∈ l, (strictOf p).contains q = true) (hc : ∀ c ∈ p.clauses, c.strict = true → c.ifs.all l.contains = true → l.contains c.thn = true) (q : Int) : l.contains q = (strictOf p).contains q := by
  cases h : (strictOf p).contains q with
  | true => exact List.contains_iff_mem.2 (strict_least hf hc _ q (List.contains_iff_mem.1 h))
  | false =>
    cases h2 : l.contains q with
    | false => rfl
    | true => rw [hl q (List.contains_iff_mem.1 h2)] at h; cases h
end Go.Proofs.Ythdgmimhaidmnaa
