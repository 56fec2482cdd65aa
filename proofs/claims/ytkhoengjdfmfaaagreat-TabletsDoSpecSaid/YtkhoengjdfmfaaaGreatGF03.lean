/- Parts of the proof that belong together: Sh Si Sj Sk Sl. -/
import Derived.Test.YtkhoengjdfmfaaaGreatGF02
import Derived.OrdersIn
import Derived.Still
import Derived.Laws.Small
set_option maxRecDepth 10000
set_option linter.unusedSimpArgs false
set_option linter.unusedVariables false
namespace Go.Proofs.YtkhoengjdfmfaaaGreat
abbrev EnvF := Nat → Option AV
def evF (e : EnvF) : Operand → Option AV
 | .tmp t => e t
 | .const v => some (cA v)
 | .func f => some (.fn (.func f) [] [])
 | .global g => some (.ptr g 0)
theorem evF_lk (env : Env) (x : Operand) : evF (lk env) x = xP env x := by cases x <;> rfl
def qU (dst : Option Tmp) (v : AV) (e : EnvF) : EnvF := match dst with | some d => fun t => if d = t then some v else e t | none => e
theorem putF_lk (dst : Option Tmp) (v : AV) (env : Env) : qU dst v (lk env) = lk (put dst v env) := by
 cases dst with
 | none => rfl
 | some d =>
  funext t
  simp only [qU, put]
  by_cases h : d = t
  ·subst h; rw [if_pos rfl, vS]
  ·rw [if_neg h, tL h]
def Adds (σ σ' : List Ent) : Prop := ∀ e, e ∈ σ → e ∈ σ'
def AddsK (kp : Ent → Prop) (σ σ' : List Ent) : Prop := ∀ e, kp e → e ∈ σ → e ∈ σ'
theorem AddsK.refl {kp : Ent → Prop} (σ : List Ent) : AddsK kp σ σ := fun _ _ h => h
theorem AddsK.trans {kp : Ent → Prop} {a b c : List Ent} (h : AddsK kp a b) (k : AddsK kp b c) : AddsK kp a c := fun x hp hx => k x hp (h x hp hx)
theorem AddsK.cons {kp : Ent → Prop} (e : Ent) (σ : List Ent) : AddsK kp σ (e :: σ) := fun _ _ h => List.mem_cons_of_mem _ h
abbrev anyK : Ent → Prop := fun _ => True
abbrev cellsK : Ent → Prop := fun e => match e with | .cells .. => True | _ => False
section
variable (P : Program) (ro : Option Nat) (le : List Ent → List Ent → Prop) (ops : Array Oper)
def GOpF (o : Oper) (e : EnvF) (σ : List Ent) (R : AV → List Ent → Prop) : Prop :=
 ∀ X M a w, Good X M σ w → (∀ x ∈ o.op.operands, ∀ v, evF e x = some v → VRel M v (a.eval x)) → ∀ (K : Act → World → Prop) (Qx : Exit → Act → World → Prop),
  (∀ M' u w' v σ', M.le M' → Good X M' σ' w' → VRel M' v u → R v σ' → K (a.put o.dst u) w') → o.wpIn (uP ro) 0 P a w K Qx
def gF (o : Oper) (e : EnvF) : Option Bool := match o.guard with
 | none => some true
 | some (j, want) => match ((ops[j]?).bind (·.dst)).bind e with
  | some (.bool b) => some (b == want)
  | some (.raw (.tuple _)) => some false
  | _ => none
def QF (o : Oper) (e : EnvF) (σ : List Ent) (v : AV) : Prop := ∀ σ', le σ σ' → GOpF P ro o e σ' (Is v σ')
def stepF (i : Nat) (K : EnvF → List Ent → Prop) (e : EnvF) (σ : List Ent) : Prop := match ops[i]? with
 | none => K e σ
 | some o => (gF ops o e = some false ∧ K (qU o.dst (.raw undef) e) σ) ∨
  (gF ops o e = some true ∧ ((∃ v, QF P ro le o e σ v ∧ K (qU o.dst v e) σ) ∨ ∃ R, GOpF P ro o e σ R ∧ ∀ v σ', R v σ' → le σ σ' ∧ K (qU o.dst v e) σ'))
def anyF (Q : EnvF → List Ent → Prop) : Nat → Array Bool → EnvF → List Ent → Prop
 | 0, L, e, σ => Region.ready .any ops L = [] ∧ Q e σ
 | f + 1, L, e, σ => (Region.ready .any ops L = [] → Q e σ) ∧ ∀ i ∈ Region.ready .any ops L, stepF P ro le ops i (anyF Q f (L.setIfInBounds i true)) e σ
def Yld (o : Oper) (v : AV) (e : EnvF) (σ : List Ent) : Prop := (gF ops o e = some true ∧ QF P ro le o e σ v) ∨ (gF ops o e = some false ∧ v = .raw undef)
end
section
variable {P : Program} {ro : Option Nat} {le : List Ent → List Ent → Prop} {ops : Array Oper}
theorem stepF_mono {i : Nat} {K K' : EnvF → List Ent → Prop} {e : EnvF} {σ : List Ent} (hk : ∀ e σ, K e σ → K' e σ) (h : stepF P ro le ops i K e σ) : stepF P ro le ops i K' e σ := by
 unfold stepF at *
 split
 ·rename_i ho; simp only [ho] at h; exact hk _ _ h
 ·rename_i o ho
  simp only [ho] at h
  rcases h with ⟨h1, h2⟩ | ⟨h1, ⟨v, h2, h3⟩ | ⟨R, h2, h3⟩⟩
  ·exact .inl ⟨h1, hk _ _ h2⟩
  ·exact .inr ⟨h1, .inl ⟨v, h2, hk _ _ h3⟩⟩
  ·exact .inr ⟨h1, .inr ⟨R, h2, fun v σ' hr => ⟨(h3 v σ' hr).1, hk _ _ (h3 v σ' hr).2⟩⟩⟩
theorem putF_comm (e : EnvF) {x y : Option Tmp} (v u : AV) (h : ∀ d, x = some d → y ≠ some d) : qU y u (qU x v e) = qU x v (qU y u e) := by
 cases x with
 | none => rfl
 | some d =>
  cases y with
  | none => rfl
  | some d' =>
   have hne : d ≠ d' := fun he => h d rfl (he ▸ rfl)
   funext t
   simp only [qU]
   by_cases h1 : d' = t
   ·subst h1; simp [hne]
   ·simp [h1]
theorem evF_put {e : EnvF} {dst : Option Tmp} {v : AV} {o : Oper} (h : ∀ d, dst = some d → d ∉ o.looksAt ops) {x : Operand} (hx : x ∈ o.op.operands) : evF (qU dst v e) x = evF e x := by
 cases dst with
 | none => rfl
 | some d =>
  cases x with
  | tmp t =>
   have hne : d ≠ t := fun he => by
    subst he
    refine h d rfl ?_
    unfold Oper.looksAt
    refine List.mem_append.2 (.inl (List.mem_filterMap.2 ⟨.tmp d, by simpa using hx, rfl⟩))
   simp [evF, qU, hne]
  | _ => rfl
theorem gF_put {e : EnvF} {dst : Option Tmp} {v : AV} {o : Oper} (h : ∀ d, dst = some d → d ∉ o.looksAt ops) : gF ops o (qU dst v e) = gF ops o e := by
 unfold gF
 cases hg : o.guard with
 | none => rfl
 | some g =>
  obtain ⟨j, want⟩ := g
  simp only
  have : ((ops[j]?).bind (·.dst)).bind (qU dst v e) = ((ops[j]?).bind (·.dst)).bind e := by
   cases hd : (ops[j]?).bind (·.dst) with
   | none => rfl
   | some t =>
    cases dst with
    | none => rfl
    | some d =>
     have hne : d ≠ t := fun he => by
      subst he
      refine h d rfl ?_
      unfold Oper.looksAt
      refine List.mem_append.2 (.inr ?_)
      rw [hg]
      simp [hd]
     simp [qU, hne]
  rw [this]
theorem GOpF.congr {o : Oper} {e e' : EnvF} {σ : List Ent} {R : AV → List Ent → Prop} (h : GOpF P ro o e σ R) (he : ∀ x ∈ o.op.operands, evF e' x = evF e x) : GOpF P ro o e' σ R :=
 fun X M a w hg ho K Qx hK => h X M a w hg (fun x hx v hv => ho x hx v (by rw [he x hx]; exact hv)) K Qx hK
theorem Yld.put {oi : Oper} {v : AV} {e : EnvF} {σ σ' : List Ent} (hy : Yld P ro le ops oi v e σ) (htr : ∀ a b c, le a b → le b c → le a c) (hσ : le σ σ') {dst : Option Tmp} (u : AV) (h : ∀ d, dst = some d → d ∉ oi.looksAt ops) : Yld P ro le ops oi v (qU dst u e) σ' := by
 unfold Yld at *
 rw [gF_put h]
 rcases hy with ⟨h1, h2⟩ | h1
 ·exact .inl ⟨h1, fun σ2 hl => (h2 σ2 (htr _ _ _ hσ hl)).congr (fun x hx => evF_put h hx)⟩
 ·exact .inr h1
theorem Yld.step {i : Nat} {o : Oper} {v : AV} {e : EnvF} {σ : List Ent} (hi : ops[i]? = some o) (hy : Yld P ro le ops o v e σ) {K : EnvF → List Ent → Prop} (h : K (qU o.dst v e) σ) : stepF P ro le ops i K e σ := by
 unfold stepF
 simp only [hi]
 rcases hy with ⟨h1, h2⟩ | ⟨h1, rfl⟩
 ·exact .inr ⟨h1, .inl ⟨v, h2, h⟩⟩
 ·exact .inl ⟨h1, h⟩
theorem stepF_put {j : Nat} {oi oj : Oper} {v : AV} (hrf : ∀ a, le a a) (htr : ∀ a b c, le a b → le b c → le a c) (hj : ops[j]? = some oj) (hap : oi.apart ops oj = true) {K : EnvF → List Ent → Prop} {e : EnvF} {σ : List Ent}
  (hy : Yld P ro le ops oi v e σ) (h : stepF P ro le ops j K (qU oi.dst v e) σ) : stepF P ro le ops j (fun e' σ' => Yld P ro le ops oi v e' σ' ∧ K (qU oi.dst v e') σ') e σ := by
 obtain ⟨h1, h2, h3⟩ := Oper.apart_spec hap
 unfold stepF at *
 simp only [hj] at *
 rw [gF_put h1] at h
 have cg : ∀ {σ R}, GOpF P ro oj (qU oi.dst v e) σ R → GOpF P ro oj e σ R := fun hh => hh.congr (fun x hx => (evF_put h1 hx).symm)
 rcases h with ⟨g, hk⟩ | ⟨g, ⟨u, hq, hk⟩ | ⟨R, hR, hk⟩⟩
 ·exact .inl ⟨g, hy.put htr (hrf σ) _ h3, by rw [← putF_comm e v (.raw undef) h2]; exact hk⟩
 ·exact .inr ⟨g, .inl ⟨u, fun σ' hl => cg (hq σ' hl), hy.put htr (hrf σ) _ h3, by rw [← putF_comm e v u h2]; exact hk⟩⟩
 ·exact .inr ⟨g, .inr ⟨R, cg hR, fun u σ' hr => ⟨(hk u σ' hr).1, hy.put htr (hk u σ' hr).1 _ h3, by rw [← putF_comm e v u h2]; exact (hk u σ' hr).2⟩⟩⟩
theorem anyF_first {Q : EnvF → List Ent → Prop} {i : Nat} {oi : Oper} {v : AV} (hrf : ∀ a, le a a) (htr : ∀ a b c, le a b → le b c → le a c) (hi : ops[i]? = some oi) :
  ∀ (fuel : Nat) (L : Array Bool) (e : EnvF) (σ : List Ent),
   (∀ j oj, ops[j]? = some oj → j ≠ i → L.getD j true = false → (∀ x ∈ oj.after, Region.binds .any x = true → x.on ≠ i) → oi.apart ops oj = true) →
   i ∈ Region.ready .any ops L → Yld P ro le ops oi v e σ →
   anyF P ro le ops Q fuel (L.setIfInBounds i true) (qU oi.dst v e) σ → anyF P ro le ops Q (fuel + 1) L e σ := by
 intro fuel
 induction fuel with
 | zero =>
  intro L e σ hfree hr hy H
  refine ⟨fun h => (by rw [h] at hr; cases hr), fun j hj => ?_⟩
  by_cases hji : j = i
  ·subst hji; exact hy.step hi H
  ·have := ready_mono hj hji
   rw [H.1] at this
   cases this
 | succ fuel ih =>
  intro L e σ hfree hr hy H
  refine ⟨fun h => (by rw [h] at hr; cases hr), fun j hj => ?_⟩
  by_cases hji : j = i
  ·subst hji; exact hy.step hi H
  ·have h1 := H.2 j (ready_mono hj hji)
   obtain ⟨hjun, oj, hoj, hall⟩ := mem_ready.1 hj
   have hnot : ∀ x ∈ oj.after, Region.binds .any x = true → x.on ≠ i := fun x hx hb heq => by
    have h1 := hall x hx hb
    have h0 := (mem_ready.1 hr).1
    rw [heq] at h1
    rcases Nat.lt_or_ge i L.size with h' | h'
    ·simp [h'] at h0 h1; rw [h0] at h1; cases h1
    ·simp [Array.getElem?_eq_none h'] at h1
   have h2 := stepF_put hrf htr hoj (hfree j oj hoj hji hjun hnot) hy h1
   have hfree' : ∀ k ok, ops[k]? = some ok → k ≠ i → (L.setIfInBounds j true).getD k true = false →
     (∀ x ∈ ok.after, Region.binds .any x = true → x.on ≠ i) → oi.apart ops ok = true := fun k ok hk hki hun hno => by
    refine hfree k ok hk hki ?_ hno
    by_cases hjk : j = k
    ·subst hjk; exact hjun
    ·rw [getD_set_ne true hjk] at hun; exact hun
   refine stepF_mono (fun e' σ' h3 => ih (L.setIfInBounds j true) e' σ' hfree' (ready_mono hr (Ne.symm hji)) h3.1 ?_) h2
   rw [Array.setIfInBounds_comm _ _ hji]
   exact h3.2
def lexE (ef : List Nat) (ops : Array Oper) : Nat → Nat → Array Bool → Bool
 | 0, _, L => (Region.ready .any ops L).isEmpty
 | f + 1, k, L => (if ef.contains k then Region.ready .any ops L == [k] else (Region.ready .any ops L).contains k && Region.free .any ops L k) && lexE ef ops f (k + 1) (L.setIfInBounds k true)
def WQ (P : Program) (ro : Option Nat) (le : List Ent → List Ent → Prop) (ef : List Nat) (ops : Array Oper) (Q : EnvF → List Ent → Prop) : Nat → List Oper → EnvF → List Ent → Prop
 | _, [], e, σ => Q e σ
 | k, o :: rest, e, σ => (ef.contains k = true ∧ gF ops o e = some true ∧ ∃ R, GOpF P ro o e σ R ∧ ∀ v σ', R v σ' → le σ σ' ∧ WQ P ro le ef ops Q (k + 1) rest (qU o.dst v e) σ') ∨
  (ef.contains k = false ∧ ∃ v, Yld P ro le ops o v e σ ∧ WQ P ro le ef ops Q (k + 1) rest (qU o.dst v e) σ)
theorem anyF_lex {ef : List Nat} {Q : EnvF → List Ent → Prop} (hrf : ∀ a, le a a) (htr : ∀ a b c, le a b → le b c → le a c) : ∀ (l : List Oper) (k : Nat) (L : Array Bool) (e : EnvF) (σ : List Ent), (∀ j, l[j]? = ops[k + j]?) →
  lexE ef ops l.length k L = true → WQ P ro le ef ops Q k l e σ → anyF P ro le ops Q l.length L e σ
 | [], _, _, _, _, _, hB, h => ⟨by simpa [lexE] using hB, h⟩
 | o :: l, k, L, e, σ, hl, hB, h => by
  have h0 : ops[k]? = some o := by simpa using (hl 0).symm
  have hl' : ∀ j, l[j]? = ops[k + 1 + j]? := fun j => by have := hl (j + 1); simpa [Nat.add_assoc, Nat.add_comm 1 j] using this
  simp only [List.length_cons, lexE, Bool.and_eq_true] at hB
  obtain ⟨hr, hB'⟩ := hB
  rcases h with ⟨he, hg, R, hR, hK⟩ | ⟨he, v, hy, hK⟩
  ·rw [if_pos he] at hr
   have hr' : Region.ready .any ops L = [k] := by simpa using hr
   refine ⟨fun h => (by rw [hr'] at h; cases h), fun i hi => ?_⟩
   rw [hr', List.mem_singleton] at hi
   subst hi
   unfold stepF
   simp only [h0]
   exact .inr ⟨hg, .inr ⟨R, hR, fun v σ' hr2 => ⟨(hK v σ' hr2).1, anyF_lex hrf htr l (i + 1) _ _ _ hl' hB' (hK v σ' hr2).2⟩⟩⟩
  ·rw [if_neg (by rw [he]; simp), Bool.and_eq_true] at hr
   exact anyF_first hrf htr h0 l.length L e σ (Region.free_spec h0 hr.2) (by simpa using hr.1) hy
    (anyF_lex hrf htr l (k + 1) _ _ _ hl' hB' hK)
end
structure SimF (X : Fx) (M : Mem) (e : EnvF) (σ : List Ent) (n : Nat) (ds : List Deferred) (a : Act) (w : World) : Prop where
 good : Good X M σ w
 size : a.tmps.size = n
 defs : a.defers = ds
 env : ∀ t v, e t = some v → ∃ u, a.tmps[t]? = some u ∧ VRel M v u
theorem SimF.put {X : Fx} {M M' : Mem} {e : EnvF} {σ σ' : List Ent} {n : Nat} {ds : List Deferred} {a : Act} {w w' : World} (h : SimF X M e σ n ds a w) (hm : M.le M') (hg : Good X M' σ' w') {dst : Option Tmp} (hd : uN dst n = true) {v : AV} {u : Value} (hv : VRel M' v u) : SimF X M' (qU dst v e) σ' n ds (a.put dst u) w' := by
 refine ⟨hg, ?_, ?_, ?_⟩
 ·cases dst <;> simp [Go.Act.put, h.size]
 ·cases dst <;> simp [Go.Act.put, h.defs]
 ·intro t x hx
  cases dst with
  | none => obtain ⟨u', h1, h2⟩ := h.env t x hx; exact ⟨u', h1, VRel.mono hm _ _ h2⟩
  | some d =>
   have hd' : d < a.tmps.size := by rw [h.size]; simpa [uN] using hd
   simp only [qU] at hx
   simp only [Go.Act.put]
   by_cases e1 : d = t
   ·subst e1; rw [if_pos rfl] at hx; cases hx; exact ⟨u, by rw [Array.getElem?_setIfInBounds_self_of_lt hd'], hv⟩
   ·rw [if_neg e1] at hx
    obtain ⟨u', h1, h2⟩ := h.env t x hx
    exact ⟨u', by rw [Array.getElem?_setIfInBounds_ne e1]; exact h1, VRel.mono hm _ _ h2⟩
theorem SimF.eval {X : Fx} {M : Mem} {e : EnvF} {σ : List Ent} {n : Nat} {ds : List Deferred} {a : Act} {w : World} (h : SimF X M e σ n ds a w) {x : Operand} {v : AV} (hx : evF e x = some v) : VRel M v (a.eval x) := by
 cases x with
 | tmp t =>
  obtain ⟨u, h1, h2⟩ := h.env t v hx
  simpa [Act.eval, Array.getD_eq_getD_getElem?, h1] using h2
 | const c => simp only [evF, Option.some.injEq] at hx; subst hx; exact cA_rel M c
 | func f => simp only [evF, Option.some.injEq] at hx; subst hx; simp [Act.eval, VRel, VRels]
 | global g => simp only [evF, Option.some.injEq] at hx; subst hx; simp [Act.eval, VRel]
theorem SimF.wanted {X : Fx} {M : Mem} {e : EnvF} {σ : List Ent} {n : Nat} {ds : List Deferred} {a : Act} {w : World} (h : SimF X M e σ n ds a w) {ops : Array Oper} {o : Oper} {b : Bool} (hg : gF ops o e = some b) : Region.wanted o (yielded ops a.tmps) = b := by
 unfold gF at hg
 cases ho : o.guard with
 | none => rw [ho] at hg; simp only [Option.some.injEq] at hg; simp [Region.wanted, ho, hg]
 | some g =>
  obtain ⟨j, want⟩ := g
  rw [ho] at hg
  simp only at hg
  cases hd : (ops[j]?).bind (·.dst) with
  | none => rw [hd] at hg; cases hg
  | some d =>
   rw [hd] at hg
   simp only [Option.bind_some] at hg
   cases he : e d with
   | none => rw [he] at hg; cases hg
   | some x =>
    obtain ⟨u, h1, h2⟩ := h.env d x he
    rw [he] at hg
    cases x <;> first | (cases hg; done) | skip
    ·rename_i b'
     simp only [VRel] at h2
     subst h2
     simp only [Option.some.injEq] at hg
     simp [Region.wanted, ho, yielded, hd, h1, ← hg]
    ·rename_i z
     simp only [VRel] at h2
     subst h2
     split at hg
     ·rename_i hz; cases hz
     ·rename_i hz; cases hz; cases hg; simp [Region.wanted, ho, yielded, hd, h1]
     ·cases hg
inductive Anc (ops : Array Oper) (i : Nat) : Nat → Prop
 | one {j : Nat} {o : Oper} {x : Edge} (hj : ops[j]? = some o) (hx : x ∈ o.after) (hb : Region.binds .any x = true) (hi : x.on = i) : Anc ops i j
 | more {j : Nat} {o : Oper} {x : Edge} (hj : ops[j]? = some o) (hx : x ∈ o.after) (hb : Region.binds .any x = true) (h : Anc ops i x.on) : Anc ops i j
def cloStep (o : Oper) (acc : List (List Nat)) : List Nat := (o.after.toList.flatMap fun x => if Region.binds .any x then x.on :: (acc[x.on]?).getD [] else []).eraseDups
def cloF : List Oper → List (List Nat) → List (List Nat)
 | [], acc => acc
 | o :: r, acc => cloF r (acc ++ [cloStep o acc])
theorem cloF_spec {ops : Array Oper} : ∀ (r : List Oper) (acc : List (List Nat)), (∀ j, r[j]? = ops[acc.length + j]?) → (∀ (j : Nat) (c : List Nat), acc[j]? = some c → ∀ i ∈ c, Anc ops i j) → ∀ (j : Nat) (c : List Nat), (cloF r acc)[j]? = some c → ∀ i ∈ c, Anc ops i j
 | [], acc, _, h => h
 | o :: r, acc, hr, h => by
  have h0 : ops[acc.length]? = some o := by simpa using (hr 0).symm
  refine cloF_spec r _ (fun j => by have := hr (j + 1); simpa [Nat.add_assoc, Nat.add_comm 1 j] using this) ?_
  intro j c hc i hi
  by_cases hj : j < acc.length
  ·rw [List.getElem?_append_left hj] at hc; exact h j c hc i hi
  ·rw [List.getElem?_append_right (by omega)] at hc
   have hj0 : j - acc.length = 0 := by
    rcases Nat.eq_zero_or_pos (j - acc.length) with h | h
    ·exact h
    ·rw [List.getElem?_eq_none (by simp; omega)] at hc; cases hc
   have hje : j = acc.length := by omega
   rw [hj0] at hc
   simp only [List.getElem?_cons_zero, Option.some.injEq] at hc
   subst hc hje
   unfold cloStep at hi
   rw [List.mem_eraseDups, List.mem_flatMap] at hi
   obtain ⟨x, hx, hi⟩ := hi
   split at hi
   ·rename_i hb
    rcases List.mem_cons.1 hi with rfl | hi
    ·exact .one h0 (by simpa using hx) hb rfl
    ·cases hc : acc[x.on]? with
     | none => rw [hc] at hi; simp at hi
     | some c => rw [hc] at hi; exact .more h0 (by simpa using hx) hb (h x.on c hc i hi)
   ·simp at hi
def preB (l : List Oper) (n : Nat) : Bool :=
 ((cloF l []).drop n).all (fun c => (List.range n).all c.contains) && l.zipIdx.all fun p => p.1.after.all fun x => !Region.binds .any x || decide (x.on < p.2)
theorem preB_spec {l : List Oper} {n : Nat} (h : preB l n = true) : (∀ j, n ≤ j → j < l.length → ∀ i, i < n → Anc l.toArray i j) ∧ ∀ (j : Nat) (o : Oper), l[j]? = some o → ∀ x ∈ o.after, Region.binds .any x = true → x.on < j := by
 simp only [preB, Bool.and_eq_true, List.all_eq_true] at h
 obtain ⟨h1, h2⟩ := h
 have hlen : ∀ (r : List Oper) (acc : List (List Nat)), (cloF r acc).length = acc.length + r.length := by
  intro r
  induction r with
  | nil => intro acc; rfl
  | cons o r ih => intro acc; rw [cloF, ih]; simp; omega
 constructor
 ·intro j hn hj i hi
  have hl : j < (cloF l []).length := by rw [hlen]; simpa using hj
  have hc : (cloF l [])[j]? = some (cloF l [])[j] := List.getElem?_eq_getElem hl
  have hm : (cloF l [])[j] ∈ (cloF l []).drop n := by
   refine List.mem_of_getElem? (i := j - n) ?_
   rw [List.getElem?_drop, show n + (j - n) = j by omega]; exact hc
  have := h1 _ hm i (List.mem_range.2 hi)
  exact cloF_spec l [] (by simp) (by simp) j _ hc i (by simpa using this)
 ·intro j o ho x hx hb
  have := h2 (o, j) (List.mem_zipIdx_iff_getElem?.2 ho)
  rw [Array.all_eq_true'] at this
  have := this x hx
  simpa [hb] using this
def tailB (ops : Array Oper) : Nat → Nat → Array Bool → Bool
 | 0, _, L => (Region.ready .any ops L).isEmpty
 | g + 1, k, L => (Region.ready .any ops L == [k]) && tailB ops g (k + 1) (L.setIfInBounds k true)
def fullB (l : List Oper) (n : Nat) : Array Bool := Array.replicate n true ++ Array.replicate (l.length - n) false
def vZ (ef : List Nat) (l : List Oper) (n : Nat) : Bool :=
 ((l.take n).all fun o => (match o.guard with | none => true | some g => decide (g.1 < n)) && (match o.op with | .defer _ => false | _ => true)) &&
   lexE ef (l.take n).toArray (l.take n).length 0 (Array.replicate n false) && preB l n &&
   tailB l.toArray (l.length - n) n (fullB l n) && decide (n ≤ l.length)
section
variable {P : Program} {ro : Option Nat} {le : List Ent → List Ent → Prop} {l : List Oper} {n : Nat} {ef : List Nat}
theorem head_op (hB : vZ ef l n = true) {i : Nat} {o : Oper} (ho : (l.take n).toArray[i]? = some o) :
  l.toArray[i]? = some o ∧ ∀ t, Region.wanted o (yielded (l.take n).toArray t) = Region.wanted o (yielded l.toArray t) := by
 simp only [vZ, Bool.and_eq_true, decide_eq_true_eq, List.all_eq_true] at hB
 obtain ⟨⟨⟨⟨hall, _⟩, _⟩, _⟩, hn⟩ := hB
 have ho' : (l.take n)[i]? = some o := by simpa using ho
 have hmem : o ∈ l.take n := List.mem_of_getElem? ho'
 have hi : i < n := by have := (List.getElem?_eq_some_iff.1 ho').1; simp at this; omega
 obtain ⟨h1, h2⟩ := hall o hmem
 refine ⟨by rw [List.getElem?_take, if_pos hi] at ho'; simpa using ho', ?_⟩
 intro t
 unfold Region.wanted
 cases hg : o.guard with
 | none => rfl
 | some g =>
  rw [hg] at h1
  obtain ⟨j, b⟩ := g
  have hj : j < n := by simpa using h1
  have e : (l.take n).toArray[j]? = l.toArray[j]? := by simp [List.getElem?_take, hj]
  simp only [yielded, e]
structure Goes (l : List Oper) (n f : Nat) (L M : Array Bool) : Prop where
 sL : L.size = l.length
 sM : M.size = n
 eq : ∀ j, j < n → L.getD j true = M.getD j true
 tail : ∀ j, n ≤ j → j < l.length → L.getD j true = false
 dc : ∀ (j : Nat) (o : Oper), L.getD j false = true → l.toArray[j]? = some o → ∀ x ∈ o.after, Region.binds .any x = true → L.getD x.on false = true
 cnt : (M.toList.filter (!·)).length = f
theorem Goes.anc {f : Nat} {L M : Array Bool} (h : Goes l n f L M) {i : Nat} : ∀ {j : Nat}, Anc l.toArray i j → (∀ o, l.toArray[j]? = some o → ∀ x ∈ o.after, Region.binds .any x = true → L.getD x.on false = true) → L.getD i false = true := by
 intro j ha
 induction ha with
 | one hj hx hb hi => intro hp; rw [← hi]; exact hp _ hj _ hx hb
 | @more j o x hj hx hb _ ih => intro hp; exact ih (fun o' ho' y hy hyb => h.dc x.on o' (hp _ hj _ hx hb) ho' y hy hyb)
theorem getD_lt {L : Array Bool} {i : Nat} (d d' : Bool) (h : i < L.size) : L.getD i d = L.getD i d' := by
 simp [Array.getD_eq_getD_getElem?, h]
theorem Goes.ready {f : Nat} {L M : Array Bool} (h : Goes l n (f + 1) L M) (hn : n ≤ l.length) (hp : preB l n = true) : Region.ready .any l.toArray L = Region.ready .any (l.take n).toArray M ∧ Region.ready .any l.toArray L ≠ [] := by
 obtain ⟨hp1, hp2⟩ := preB_spec hp
 have hex : ∃ i, i < n ∧ M.getD i true = false := by
  have hpos : 0 < (M.toList.filter (!·)).length := by rw [h.cnt]; omega
  obtain ⟨b, hb⟩ := List.exists_mem_of_length_pos hpos
  obtain ⟨hb1, hb2⟩ := List.mem_filter.1 hb
  obtain ⟨i, hi⟩ := List.mem_iff_getElem?.1 hb1
  have hlt : i < M.size := by rcases Nat.lt_or_ge i M.size with h | h; exact h; rw [List.getElem?_eq_none (by simpa using h)] at hi; cases hi
  refine ⟨i, by rw [← h.sM]; exact hlt, ?_⟩
  simp only [Array.getElem?_toList] at hi
  simp only [Array.getD_eq_getD_getElem?, hi, Option.getD_some]
  simpa using hb2
 -- the least that has not come up
 have hleast : ∃ i, i < n ∧ L.getD i true = false ∧ ∀ j, j < i → L.getD j true = true := by
  obtain ⟨i, hi, hf⟩ := hex
  have : ∃ k, (k < n ∧ L.getD k true = false) ∧ ∀ m, (m < n ∧ L.getD m true = false) → k ≤ m := exists_least ⟨i, hi, by rw [h.eq i hi]; exact hf⟩
  obtain ⟨k, ⟨hk1, hk2⟩, hk3⟩ := this
  refine ⟨k, hk1, hk2, fun j hj => ?_⟩
  cases hL : L.getD j true with
  | true => rfl
  | false => have := hk3 j ⟨by omega, hL⟩; omega
 obtain ⟨i0, hi0, hL0, hless⟩ := hleast
 have hsz : ∀ j, j < n → j < L.size := fun j hj => by rw [h.sL]; omega
 have hr0 : i0 ∈ Region.ready .any l.toArray L := by
  have hlt : i0 < l.length := by omega
  refine mem_ready.2 ⟨hL0, l[i0], by simp [hlt], fun x hx hb => ?_⟩
  have hlt' := hp2 i0 l[i0] (List.getElem?_eq_getElem hlt) x hx hb
  rw [getD_lt false true (hsz _ (by omega))]
  exact hless _ hlt'
 refine ⟨?_, fun h0 => by rw [h0] at hr0; cases hr0⟩
 have hnot : ∀ j, n ≤ j → j ∉ Region.ready .any l.toArray L := fun j hj hm => by
  obtain ⟨_, o, ho, hall⟩ := mem_ready.1 hm
  have hjl : j < l.length := by
   have := (Array.getElem?_eq_some_iff.1 ho).1; simpa using this
  have := h.anc (hp1 j hj hjl i0 hi0) (fun o' ho' x hx hb => by rw [ho] at ho'; cases ho'; exact hall x hx hb)
  rw [getD_lt false true (hsz _ hi0), hL0] at this
  cases this
 unfold Region.ready at hnot ⊢
 simp only [List.size_toArray, List.length_take, Nat.min_eq_left hn] at hnot ⊢
 have hsplit : List.range l.length = List.range n ++ (List.range' n (l.length - n)) := by
  have h3 := @List.range'_append 0 n (l.length - n) 1
  simp only [Nat.one_mul, Nat.zero_add] at h3
  rw [List.range_eq_range', List.range_eq_range', h3]
  congr 1; omega
 rw [hsplit, List.filter_append]
 have h2 : (List.range' n (l.length - n)).filter (fun i => !L.getD i true && ((l.toArray[i]?).map (·.after.all fun e => !Region.binds .any e || L.getD e.on false)).getD false) = [] := by
  rw [List.filter_eq_nil_iff]
  intro j hj hb
  have hj' := List.mem_range'_1.1 hj
  exact hnot j hj'.1 (List.mem_filter.2 ⟨List.mem_range.2 (by omega), hb⟩)
 rw [h2, List.append_nil]
 refine List.filter_congr (fun j hj => ?_)
 have hjn := List.mem_range.1 hj
 have hget : (l.take n).toArray[j]? = l.toArray[j]? := by simp [List.getElem?_take, hjn]
 rw [hget, h.eq j hjn]
 congr 1
 cases ho : l.toArray[j]? with
 | none => rfl
 | some o =>
  simp only [Option.map_some, Option.getD_some]
  rw [Bool.eq_iff_iff, Array.all_eq_true', Array.all_eq_true']
  have key : ∀ x ∈ o.after, (!Region.binds .any x || L.getD x.on false) = (!Region.binds .any x || M.getD x.on false) := fun x hx => by
   cases hb : Region.binds .any x with
   | false => rfl
   | true =>
    have hlt := hp2 j o (by simpa using ho) x hx hb
    rw [getD_lt false true (hsz _ (by omega)), h.eq _ (by omega), getD_lt true false (by rw [h.sM]; omega)]
  exact ⟨fun hh x hx => by rw [← key x hx]; exact hh x hx, fun hh x hx => by rw [key x hx]; exact hh x hx⟩
theorem Goes.next {f i : Nat} {L M : Array Bool} (h : Goes l n (f + 1) L M) (hn : n ≤ l.length) (hp : preB l n = true) (hi : i ∈ Region.ready .any (l.take n).toArray M) : Goes l n f (L.setIfInBounds i true) (M.setIfInBounds i true) := by
 have hr := (h.ready hn hp).1
 have hiL : i ∈ Region.ready .any l.toArray L := by rw [hr]; exact hi
 obtain ⟨hun, o, ho, _⟩ := mem_ready.1 hi
 have hin : i < n := by have := (Array.getElem?_eq_some_iff.1 ho).1; simp at this; omega
 obtain ⟨_, oL, hoL, hallL⟩ := mem_ready.1 hiL
 have hiM : i < M.size := by rw [h.sM]; exact hin
 have hiLs : i < L.size := by rw [h.sL]; omega
 refine ⟨by simpa using h.sL, by simpa using h.sM, fun j hj => ?_, fun j h1 h2 => ?_, fun j o' hj ho' x hx hb => ?_, ?_⟩
 ·by_cases e : i = j
  ·subst e; simp [Array.getD_eq_getD_getElem?, hiM, hiLs]
  ·rw [getD_set_ne true e, getD_set_ne true e]; exact h.eq j hj
 ·rw [getD_set_ne true (by omega)]; exact h.tail j h1 h2
 ·have hx' : L.getD x.on false = true := by
   by_cases e : i = j
   ·subst e; rw [hoL] at ho'; cases ho'; exact hallL x hx hb
   ·rw [getD_set_ne false e] at hj; exact h.dc j o' hj ho' x hx hb
  by_cases e : i = x.on
  ·subst e; simp [Array.getD_eq_getD_getElem?, hiLs]
  ·rw [getD_set_ne false e]; exact hx'
 ·have key : ∀ (m : List Bool) (i : Nat), m[i]? = some false → ((m.set i true).filter (!·)).length + 1 = (m.filter (!·)).length := by
   intro m
   induction m with
   | nil => intro i h; simp at h
   | cons b m ih =>
    intro i h
    cases i with
    | zero => simp at h; subst h; simp
    | succ i => simp at h; have := ih i h; cases b <;> simp [List.filter_cons] <;> omega
  have hm : M.toList[i]? = some false := by
   simp only [Array.getElem?_toList]
   rw [Array.getElem?_eq_getElem hiM]
   have : M.getD i true = M[i] := by simp [Array.getD_eq_getD_getElem?, hiM]
   rw [← this, hun]
  have := key M.toList i hm
  rw [Array.toList_setIfInBounds]
  have hc := h.cnt
  omega
theorem Goes.full {L M : Array Bool} (h : Goes l n 0 L M) (hn : n ≤ l.length) : L = fullB l n := by
 apply Array.ext_getElem?
 intro j
 unfold fullB
 by_cases hj : j < l.length
 ·have hjL : j < L.size := by rw [h.sL]; exact hj
  have e1 : L[j]? = some (L.getD j true) := by rw [Array.getElem?_eq_getElem hjL]; simp [Array.getD_eq_getD_getElem?, hjL]
  rw [e1]
  by_cases hjn : j < n
  ·rw [h.eq j hjn]
   have hjM : j < M.size := by rw [h.sM]; exact hjn
   have : M.getD j true = true := by
    cases hm : M.getD j true with
    | true => rfl
    | false =>
     have hmem : false ∈ M.toList.filter (!·) := List.mem_filter.2 ⟨List.mem_iff_getElem?.2 ⟨j, by rw [Array.getElem?_toList, Array.getElem?_eq_getElem hjM]; simpa [Array.getD_eq_getD_getElem?, hjM] using hm⟩, rfl⟩
     have := h.cnt
     rw [List.eq_nil_of_length_eq_zero this] at hmem
     cases hmem
   rw [this]
   rw [Array.getElem?_append_left (by simpa using hjn)]
   simp [hjn]
  ·rw [h.tail j (by omega) hj]
   rw [Array.getElem?_append_right (by simp; omega)]
   have h4 : j - n < l.length - n := by omega
   simp [h4]
 ·rw [Array.getElem?_eq_none (by rw [h.sL]; omega), Array.getElem?_eq_none (by simp; omega)]
theorem Goes.start (hn : n ≤ l.length) : Goes l n n (Array.replicate l.length false) (Array.replicate n false) := by
 refine ⟨by simp, by simp, fun j hj => ?_, fun j _ hj => by simp [Array.getD_eq_getD_getElem?, hj], fun j o hj => ?_, by simp⟩
 ·simp [Array.getD_eq_getD_getElem?, hj, show j < l.length by omega]
 ·by_cases h : j < l.length <;> simp [Array.getD_eq_getD_getElem?, h] at hj
theorem any_head (hrf : ∀ a, le a a) {nn : Nat} {ds : List Deferred} {Qr : Exit → Act → World → Prop} {g : Nat} {Q : EnvF → List Ent → Prop} {X : Fx} (hB : vZ ef l n = true) (hn : n ≤ l.length) (hp : preB l n = true) (hd : ∀ o ∈ l, uN o.dst nn = true)
  {M0 : Mem} (hQ : ∀ M e σ a w, M0.le M → SimF X M e σ nn ds a w → Q e σ → wpAnyIn (uP ro) 0 P .any l.toArray Qr g (fullB l n) a w) :
  ∀ f L M' (M : Mem) e σ a w, Goes l n f L M' → M0.le M → SimF X M e σ nn ds a w → anyF P ro le (l.take n).toArray Q f M' e σ → wpAnyIn (uP ro) 0 P .any l.toArray Qr (f + g) L a w
 | 0, L, M', M, e, σ, a, w, hb, hm, hs, h => by
  rw [hb.full hn, Nat.zero_add]
  exact hQ M e σ a w hm hs h.2
 | f + 1, L, M', M, e, σ, a, w, hb, hm, hs, h => by
  obtain ⟨heq, hne⟩ := hb.ready hn hp
  rw [show f + 1 + g = (f + g) + 1 by omega]
  refine ⟨fun h0 => absurd h0 hne, fun i hi => ?_⟩
  have hi' : i ∈ Region.ready .any (l.take n).toArray M' := heq ▸ hi
  have hnx := hb.next hn hp hi'
  have h2 := h.2 i hi'
  obtain ⟨_, o, ho, _⟩ := mem_ready.1 hi'
  obtain ⟨ho', hwt⟩ := head_op hB ho
  have hol : o ∈ l := by have : l[i]? = some o := by simpa using ho'
                         exact List.mem_of_getElem? this
  unfold stepF at h2
  simp only [ho] at h2
  unfold wpOpIn
  simp only [ho']
  rcases h2 with ⟨h3, h4⟩ | ⟨h3, ⟨v, hq, hk⟩ | ⟨R, hR, hk⟩⟩
  ·have hw := hs.wanted h3
   rw [hwt] at hw
   simp only [hw, Bool.false_eq_true, if_false]
   exact ⟨fun f _ => uB f ro, any_head hrf hB hn hp hd hQ f _ _ M _ σ _ w hnx hm (hs.put (Mem.le_refl M) hs.good (hd o hol) (by simp [VRel])) h4⟩
  ·have hw := hs.wanted h3
   rw [hwt] at hw
   simp only [hw, if_true]
   refine hq σ (hrf σ) X M a w hs.good (fun x _ v hv => hs.eval hv) _ _ ?_
   rintro M2 u w' v' σ' hm2 hg2 hv2 ⟨⟩
   exact any_head hrf hB hn hp hd hQ f _ _ M2 _ _ _ w' hnx (Mem.le_trans hm hm2) (hs.put hm2 hg2 (hd o hol) hv2) hk
  ·have hw := hs.wanted h3
   rw [hwt] at hw
   simp only [hw, if_true]
   refine hR X M a w hs.good (fun x _ v hv => hs.eval hv) _ _ ?_
   intro M2 u w' v σ' hm2 hg2 hv2 hr2
   exact any_head hrf hB hn hp hd hQ f _ _ M2 _ σ' _ w' hnx (Mem.le_trans hm hm2) (hs.put hm2 hg2 (hd o hol) hv2) (hk v σ' hr2).2
theorem any_tail {ops : Array Oper} {F : Fence} {m : Nat} {Qr : Exit → Act → World → Prop} : ∀ (t : List Oper) (k : Nat) (L : Array Bool), (∀ j, t[j]? = ops[k + j]?) → tailB ops t.length k L = true → ∀ a w, wpListIn F m P ops Qr t a w → wpAnyIn F m P .any ops Qr t.length L a w
 | [], k, L, _, hB, a, w, h => ⟨by simpa [tailB] using hB, h⟩
 | o :: t, k, L, hk, hB, a, w, h => by
  have h0 : ops[k]? = some o := by simpa using (hk 0).symm
  simp only [List.length_cons, tailB, Bool.and_eq_true, beq_iff_eq] at hB
  refine ⟨fun h0 => (by rw [hB.1] at h0; cases h0), fun i hi => ?_⟩
  rw [hB.1, List.mem_singleton] at hi
  subst hi
  have hk' : ∀ j, t[j]? = ops[i + 1 + j]? := fun j => by have := hk (j + 1); simpa [Nat.add_assoc, Nat.add_comm 1 j] using this
  have hw : wpOpIn F m P ops Qr i (wpListIn F m P ops Qr t) a w := by unfold wpOpIn; simp only [h0]; exact h
  exact wpOpIn_mono (fun a' w' h' => any_tail t (i + 1) _ hk' hB.2 a' w' h') hw
theorem ex_drawK (kp : Ent → Prop) {id : Nat} {Q : Exit → St → Prop} {s : St} (n : Nat) (ef : List Nat) (hm : P.follows .mixedOrders = true) (hB : vZ ef l n = true) (hd : (l.all fun o => uN o.dst s.n) = true)
  (h : WQ P ro (AddsK kp) ef (l.take n).toArray (fun e σ => ∃ env, lk env = e ∧ EXL P ro l.toArray (l.drop n) Q { s with env := env, σ := σ }) 0 (l.take n) (lk s.env) s.σ) : EX P ro (.region id l.toArray true) Q s := by
 refine ⟨fun X M a w hs => ?_⟩
 refine wpIn_region_any hm ?_
 have hB0 := hB
 simp only [vZ, Bool.and_eq_true, decide_eq_true_eq] at hB0
 obtain ⟨⟨⟨⟨_, hlex⟩, hpre⟩, htail⟩, hn⟩ := hB0
 have hd' : ∀ o ∈ l, uN o.dst s.n = true := fun o ho => List.all_eq_true.1 hd o ho
 have hlen : (l.take n).length = n := by simp; omega
 have hany := anyF_lex (le := AddsK kp) (AddsK.refl) (fun _ _ _ => AddsK.trans) (l.take n) 0 (Array.replicate n false) (lk s.env) s.σ (by simp) hlex h
 rw [hlen] at hany
 have := any_head (P := P) (ro := ro) (le := AddsK kp) AddsK.refl (nn := s.n) (ds := marksD s.marks ++ X.dt) (Qr := postA X M Q) (g := l.length - n) (X := X) (M0 := M) hB hn hpre hd' (Q := fun e σ => ∃ env, lk env = e ∧ EXL P ro l.toArray (l.drop n) Q { s with env := env, σ := σ }) ?_ n _ _ M (lk s.env) s.σ a _ (Goes.start hn) (Mem.le_refl M) ⟨hs.good.drew, hs.size, hs.defs, hs.env⟩ hany
 ·rw [List.size_toArray]
  rwa [show n + (l.length - n) = l.length by omega] at this
 ·intro M1 e σ a1 w1 hm1 hs1 hq
  obtain ⟨env, rfl, hx⟩ := hq
  have h1 := hx.run X M1 a1 w1 ⟨hs1.good, hs1.size, hs1.defs, hs1.env⟩
  have h2 := wK (fun _ _ _ hp => vB hm1 (fun _ _ h => h) hp) _ _ _ h1
  have h3 := any_tail (l.drop n) n (fullB l n) (fun j => by simp [List.getElem?_drop]) (by rw [List.length_drop]; exact htail) a1 w1 h2
  rwa [List.length_drop] at h3
end
theorem xD {α : Type} {f : α → List AV} {l : List α} {k : Nat} {c : α} (h : l[k]? = some c) : (l.map f)[k]? = some (f c) := by rw [List.getElem?_map, h]; rfl
def entersB (P : Program) (g : FuncId) : Bool := match P.funcs[g]? with
 | some fn => fn.name != "runtime.NumGoroutine" && fn.body.isSome
 | none => false
theorem zB {P : Program} {g : FuncId} (h : entersB P g = true) : Enters P g := by
 unfold entersB at h
 split at h
 ·rename_i fn hf
  simp only [Bool.and_eq_true] at h
  cases hb : fn.body with
  | none => rw [hb] at h; simp at h
  | some c => exact enters_of hf (by simpa [bne] using h.1) hb
 ·cases h
section
variable {P : Program} {ro : Option Nat} {Q : Exit → St → Prop} {s : St} {ops : Array Oper} {rest l : List Oper} {o : Oper} {env : Env} {σ : List Ent} {mk : List Nat} {n : Nat}
theorem zX {y : Code} (h : EX P ro y Q s) : EXL P ro ops [] (zA (EX P ro y Q) Q) s := zQ h
theorem dst_ok {d : Nat} (hd : o.dst = some d) (hn : Nat.blt d n = true) : uN o.dst n = true := by rw [hd]; simpa [uN] using hn
theorem zU {v : AV} {d : Nat} {σ1 : List Ent} (hgd : o.guard = none) (hd : o.dst = some d) (hn : Nat.blt d n = true) (hg : GOp P ro o env σ (Is v σ1)) (h : EXL P ro ops rest Q ⟨(d, v) :: env, σ1, mk, n⟩) : EXL P ro ops (o :: rest) Q ⟨env, σ, mk, n⟩ :=
 exl_plain (s := ⟨env, σ, mk, n⟩) hgd (dst_ok hd hn) hg (by rintro _ _ ⟨⟩; rw [hd]; exact h)
inductive BV : Bool → Bool → Prop
 | mk (b : Bool) : BV b b
theorem BV.eq {a b : Bool} (h : BV a b) : a = b := by cases h; rfl
theorem yE {e : Bool} {d : Nat} {σ1 : List Ent} (hgd : o.guard = none) (hd : o.dst = some d) (hn : Nat.blt d n = true) (hg : GOp P ro o env σ (Is (.bool e) σ1)) (h : ∀ b, BV e b → EXL P ro ops rest Q ⟨(d, .bool b) :: env, σ1, mk, n⟩) : EXL P ro ops (o :: rest) Q ⟨env, σ, mk, n⟩ :=
 zU hgd hd hn hg (h e (.mk e))
theorem vT {v : AV} {σ' : List Ent} (hgd : o.guard = none) (hd : o.dst = none) (hg : GOp P ro o env σ (Is v σ')) (h : EXL P ro ops rest Q ⟨env, σ', mk, n⟩) : EXL P ro ops (o :: rest) Q ⟨env, σ, mk, n⟩ :=
 exl_plain (s := ⟨env, σ, mk, n⟩) hgd (by rw [hd]; rfl) hg (by rintro _ _ ⟨⟩; rw [hd]; exact h)
theorem yZ {v : AV} {b want : Bool} {d : Nat} {σ1 : List Ent} (hgd : wX ops o env = some (.bool b, want)) (hb : b = want) (hd : o.dst = some d) (hn : Nat.blt d n = true) (hg : GOp P ro o env σ (Is v σ1)) (h : EXL P ro ops rest Q ⟨(d, v) :: env, σ1, mk, n⟩) : EXL P ro ops (o :: rest) Q ⟨env, σ, mk, n⟩ :=
 exl_want (s := ⟨env, σ, mk, n⟩) hgd hb (dst_ok hd hn) hg (by rintro _ _ ⟨⟩; rw [hd]; exact h)
theorem xR {e b want : Bool} {d : Nat} {σ1 : List Ent} (hgd : wX ops o env = some (.bool b, want)) (hb : b = want) (hd : o.dst = some d) (hn : Nat.blt d n = true) (hg : GOp P ro o env σ (Is (.bool e) σ1)) (h : ∀ b, BV e b → EXL P ro ops rest Q ⟨(d, .bool b) :: env, σ1, mk, n⟩) : EXL P ro ops (o :: rest) Q ⟨env, σ, mk, n⟩ :=
 yZ hgd hb hd hn hg (h e (.mk e))
theorem exl_skipL {b want : Bool} {d : Nat} (hgd : wX ops o env = some (.bool b, want)) (hb : b = !want) (hd : o.dst = some d) (hn : Nat.blt d n = true) (h : EXL P ro ops rest Q ⟨(d, .raw undef) :: env, σ, mk, n⟩) : EXL P ro ops (o :: rest) Q ⟨env, σ, mk, n⟩ :=
 exl_skip (s := ⟨env, σ, mk, n⟩) hgd hb (dst_ok hd hn) (by rw [hd]; exact h)
theorem exl_skipR {want : Bool} {d : Nat} (hgd : wX ops o env = some (.raw undef, want)) (hd : o.dst = some d) (hn : Nat.blt d n = true) (h : EXL P ro ops rest Q ⟨(d, .raw undef) :: env, σ, mk, n⟩) : EXL P ro ops (o :: rest) Q ⟨env, σ, mk, n⟩ :=
 exl_skip_raw (s := ⟨env, σ, mk, n⟩) hgd (dst_ok hd hn) (by rw [hd]; exact h)
theorem exl_caseL {b want : Bool} (hgd : wX ops o env = some (.bool b, want)) (ht : b = true → EXL P ro ops (o :: rest) Q ⟨env, σ, mk, n⟩) (hf : b = false → EXL P ro ops (o :: rest) Q ⟨env, σ, mk, n⟩) : EXL P ro ops (o :: rest) Q ⟨env, σ, mk, n⟩ :=
 exl_case (s := ⟨env, σ, mk, n⟩) hgd ht hf
theorem exl_box {L : List AV} {t : TypeId} {d : Nat} (hgd : o.guard = none) (hd : o.dst = some d) (hn : Nat.blt d n = true) (hg : GOp P ro o env σ (Boxed L t σ)) (h : ∀ b, EXL P ro ops rest Q ⟨(d, .ptr b 0) :: env, .cells b L t :: σ, mk, n⟩) : EXL P ro ops (o :: rest) Q ⟨env, σ, mk, n⟩ :=
 exl_plain (s := ⟨env, σ, mk, n⟩) hgd (dst_ok hd hn) hg (by rintro _ _ ⟨b⟩; rw [hd]; exact h b)
theorem qS {L : List (List AV)} {t : TypeId} {sz d : Nat} (hgd : o.guard = none) (hd : o.dst = some d) (hn : Nat.blt d n = true) (hg : GOp P ro o env σ (Rowed t sz L σ)) (h : ∀ v, EXL P ro ops rest Q ⟨(d, .slv v) :: env, .row v t sz L :: σ, mk, n⟩) : EXL P ro ops (o :: rest) Q ⟨env, σ, mk, n⟩ :=
 exl_plain (s := ⟨env, σ, mk, n⟩) hgd (dst_ok hd hn) hg (by rintro _ _ ⟨b⟩; rw [hd]; exact h b)
theorem tQ {F : Value → List Ent} {d : Nat} (hgd : o.guard = none) (hd : o.dst = some d) (hn : Nat.blt d n = true) (hg : GOp P ro o env σ (Grew F)) (h : ∀ v, EXL P ro ops rest Q ⟨(d, .slv v) :: env, F v, mk, n⟩) : EXL P ro ops (o :: rest) Q ⟨env, σ, mk, n⟩ :=
 exl_plain (s := ⟨env, σ, mk, n⟩) hgd (dst_ok hd hn) hg (by rintro _ _ ⟨v⟩; rw [hd]; exact h v)
theorem xL {R : AV → List Ent → Prop} {d : Nat} (hgd : o.guard = none) (hd : o.dst = some d) (hn : Nat.blt d n = true) (hg : GOp P ro o env σ R) (h : ∀ v σ', R v σ' → EXL P ro ops rest Q ⟨(d, v) :: env, σ', mk, n⟩) : EXL P ro ops (o :: rest) Q ⟨env, σ, mk, n⟩ :=
 exl_plain (s := ⟨env, σ, mk, n⟩) hgd (dst_ok hd hn) hg (by intro v σ' hr; rw [hd]; exact h v σ' hr)
structure WL (P : Program) (ro : Option Nat) (kp : Ent → Prop) (ef : List Nat) (ops : Array Oper) (F : Env → List Ent → Prop) (k : Nat) (l : List Oper) (env : Env) (σ : List Ent) : Prop where
 run : WQ P ro (AddsK kp) ef ops (fun e σ => ∃ env, lk env = e ∧ F env σ) k l (lk env) σ
theorem gopF_iff {R : AV → List Ent → Prop} (h : GOp P ro o env σ R) : GOpF P ro o (lk env) σ R :=
 fun X M a w hg ho K Qx hK => h.run X M a w hg (fun x hx v hv => ho x hx v (by rw [evF_lk]; exact hv)) K Qx hK
theorem gF_guardA {b want : Bool} (h : wX ops o env = some (.bool b, want)) : gF ops o (lk env) = some (b == want) := by
 obtain ⟨j, d, h1, h2, h3⟩ := guardA_spec (b := b) h
 unfold gF; rw [h1]; simp only [h2, Option.bind_some, h3]
theorem gF_raw {want : Bool} (h : wX ops o env = some (.raw undef, want)) : gF ops o (lk env) = some false := by
 obtain ⟨j, d, h1, h2, h3⟩ := guardA_spec (b := want) h
 unfold gF; rw [h1]; simp only [h2, Option.bind_some, h3]; rfl
theorem gF_none (h : o.guard = none) : gF ops o (lk env) = some true := by unfold gF; rw [h]
variable {kp : Ent → Prop} {ef : List Nat} {F : Env → List Ent → Prop} {k : Nat}
theorem zC (h : F env σ) : WL P ro kp ef ops F k [] env σ := ⟨env, rfl, h⟩
theorem put_some {d : Nat} (hd : o.dst = some d) (v : AV) : put o.dst v env = (d, v) :: env := by rw [hd]; rfl
theorem wl_core {v : AV} {d : Nat} (hk : ef.contains k = false) (hd : o.dst = some d) (hy : Yld P ro (AddsK kp) ops o v (lk env) σ) (h : WL P ro kp ef ops F (k + 1) rest ((d, v) :: env) σ) : WL P ro kp ef ops F k (o :: rest) env σ :=
 ⟨.inr ⟨hk, v, hy, by rw [putF_lk, put_some hd]; exact h.run⟩⟩
theorem yY {v : AV} {d : Nat} (hgd : o.guard = none) (hk : ef.contains k = false) (hd : o.dst = some d) (hg : ∀ σ', AddsK kp σ σ' → GOp P ro o env σ' (Is v σ')) (h : WL P ro kp ef ops F (k + 1) rest ((d, v) :: env) σ) : WL P ro kp ef ops F k (o :: rest) env σ :=
 wl_core hk hd (.inl ⟨gF_none hgd, fun σ' hl => gopF_iff (hg σ' hl)⟩) h
theorem xS {v : AV} {b want : Bool} {d : Nat} (hgd : wX ops o env = some (.bool b, want)) (hb : b = want) (hk : ef.contains k = false) (hd : o.dst = some d) (hg : ∀ σ', AddsK kp σ σ' → GOp P ro o env σ' (Is v σ')) (h : WL P ro kp ef ops F (k + 1) rest ((d, v) :: env) σ) : WL P ro kp ef ops F k (o :: rest) env σ :=
 wl_core hk hd (.inl ⟨by rw [gF_guardA hgd, hb]; simp, fun σ' hl => gopF_iff (hg σ' hl)⟩) h
theorem vP {e : Bool} {d : Nat} (hgd : o.guard = none) (hk : ef.contains k = false) (hd : o.dst = some d) (hg : ∀ σ', AddsK kp σ σ' → GOp P ro o env σ' (Is (.bool e) σ')) (h : ∀ b, BV e b → WL P ro kp ef ops F (k + 1) rest ((d, .bool b) :: env) σ) : WL P ro kp ef ops F k (o :: rest) env σ :=
 yY hgd hk hd hg (h e (.mk e))
theorem uX {e b want : Bool} {d : Nat} (hgd : wX ops o env = some (.bool b, want)) (hb : b = want) (hk : ef.contains k = false) (hd : o.dst = some d) (hg : ∀ σ', AddsK kp σ σ' → GOp P ro o env σ' (Is (.bool e) σ')) (h : ∀ b, BV e b → WL P ro kp ef ops F (k + 1) rest ((d, .bool b) :: env) σ) : WL P ro kp ef ops F k (o :: rest) env σ :=
 xS hgd hb hk hd hg (h e (.mk e))
theorem wl_skip {b want : Bool} {d : Nat} (hgd : wX ops o env = some (.bool b, want)) (hb : b = !want) (hk : ef.contains k = false) (hd : o.dst = some d) (h : WL P ro kp ef ops F (k + 1) rest ((d, .raw undef) :: env) σ) : WL P ro kp ef ops F k (o :: rest) env σ :=
 wl_core hk hd (.inr ⟨by rw [gF_guardA hgd, hb]; cases want <;> rfl, rfl⟩) h
theorem wS {want : Bool} {d : Nat} (hgd : wX ops o env = some (.raw undef, want)) (hk : ef.contains k = false) (hd : o.dst = some d) (h : WL P ro kp ef ops F (k + 1) rest ((d, .raw undef) :: env) σ) : WL P ro kp ef ops F k (o :: rest) env σ :=
 wl_core hk hd (.inr ⟨gF_raw hgd, rfl⟩) h
theorem wl_case {b want : Bool} (_ : wX ops o env = some (.bool b, want)) (ht : b = true → WL P ro kp ef ops F k (o :: rest) env σ) (hf : b = false → WL P ro kp ef ops F k (o :: rest) env σ) : WL P ro kp ef ops F k (o :: rest) env σ := by
 cases b
 ·exact hf rfl
 ·exact ht rfl
theorem wE {R : AV → List Ent → Prop} {d : Nat} (hgd : o.guard = none) (hk : ef.contains k = true) (hd : o.dst = some d) (hg : GOp P ro o env σ R) (h : ∀ v σ', R v σ' → AddsK kp σ σ' ∧ WL P ro kp ef ops F (k + 1) rest ((d, v) :: env) σ') : WL P ro kp ef ops F k (o :: rest) env σ :=
 ⟨.inl ⟨hk, gF_none hgd, R, gopF_iff hg, fun v σ' hr => ⟨(h v σ' hr).1, by rw [putF_lk, put_some hd]; exact (h v σ' hr).2.run⟩⟩⟩
theorem wl_row {L : List (List AV)} {t : TypeId} {sz d : Nat} (hgd : o.guard = none) (hk : ef.contains k = true) (hd : o.dst = some d) (hg : GOp P ro o env σ (Rowed t sz L σ)) (h : ∀ v, WL P ro kp ef ops F (k + 1) rest ((d, .slv v) :: env) (.row v t sz L :: σ)) : WL P ro kp ef ops F k (o :: rest) env σ :=
 wE hgd hk hd hg (by rintro _ _ ⟨b⟩; exact ⟨AddsK.cons _ _, h b⟩)
theorem xN (kp : Ent → Prop) {id : Nat} (m : Nat) (ef : List Nat) (hm : P.follows .mixedOrders = true) (hB : vZ ef l m = true) (hd : (l.all fun o => uN o.dst n) = true)
  (h : WL P ro kp ef (l.take m).toArray (fun env σ => EXL P ro l.toArray (l.drop m) Q ⟨env, σ, mk, n⟩) 0 (l.take m) env σ) : EX P ro (.region id l.toArray true) Q ⟨env, σ, mk, n⟩ :=
 ex_drawK kp (s := ⟨env, σ, mk, n⟩) m ef hm hB hd h.run
def lastStore (l : List Oper) : Bool := match l.getLast? with
 | some o => match o.op with | .store .. => true | _ => false
 | none => false
theorem ex_drawT {id : Nat} (_ : lastStore l = true) (hm : P.follows .mixedOrders = true) (hB : vZ [] l (l.length - 1) = true) (hd : (l.all fun o => uN o.dst n) = true)
  (h : WL P ro anyK [] (l.take (l.length - 1)).toArray (fun env σ => EXL P ro l.toArray (l.drop (l.length - 1)) Q ⟨env, σ, mk, n⟩) 0 (l.take (l.length - 1)) env σ) : EX P ro (.region id l.toArray true) Q ⟨env, σ, mk, n⟩ :=
 xN anyK _ [] hm hB hd h
def pureOps (l : List Oper) : Bool := l.all fun o => match o.op with
 | .store .. | .buildSlice .. | .box .. | .alloc .. | .makeSlice .. | .makeMap .. | .mapUpdate .. | .entryStore .. | .slice .. => false
 | .call c => match c.callee with
  | .builtin b => match b with | .append | .copy | .delete | .clear => false | _ => true
  | _ => false
 | _ => true
def pureCalls (l : List Oper) : Bool := l.all fun o => match o.op with
 | .store .. | .buildSlice .. | .box .. | .alloc .. | .makeSlice .. | .makeMap .. | .mapUpdate .. | .entryStore .. => false
 | .call c => match c.callee with
  | .builtin b => match b with | .append | .copy | .delete | .clear => false | _ => true
  | _ => true
 | _ => true
theorem xV {id : Nat} (_ : pureCalls l = true) (hm : P.follows .mixedOrders = true) (hB : vZ [] l l.length = true) (hd : (l.all fun o => uN o.dst n) = true)
  (h : EX P ro (.region id l.toArray true) Q ⟨env, σ, mk, n⟩) : EX P ro (.region id l.toArray true) Q ⟨env, σ, mk, n⟩ := h
theorem wN {id : Nat} (_ : pureOps l = true) (hm : P.follows .mixedOrders = true) (hB : vZ [] l l.length = true) (hd : (l.all fun o => uN o.dst n) = true)
  (h : EX P ro (.region id l.toArray true) Q ⟨env, σ, mk, n⟩) : EX P ro (.region id l.toArray true) Q ⟨env, σ, mk, n⟩ := h
theorem yU {id : Nat} (hm : P.follows .mixedOrders = true) (hB : vZ [] l l.length = true) (hd : (l.all fun o => uN o.dst n) = true)
  (h : WL P ro anyK [] l.toArray (fun env σ => Q .normal ⟨env, σ, mk, n⟩) 0 l env σ) : EX P ro (.region id l.toArray true) Q ⟨env, σ, mk, n⟩ := by
 refine xN anyK l.length [] hm hB hd ?_
 rw [List.take_length, List.drop_length]
 have mono : ∀ (F F' : Env → List Ent → Prop), (∀ env σ, F env σ → F' env σ) → ∀ (m : List Oper) (k : Nat) (e : EnvF) (σ : List Ent), WQ P ro (AddsK anyK) [] l.toArray (fun e σ => ∃ env, lk env = e ∧ F env σ) k m e σ → WQ P ro (AddsK anyK) [] l.toArray (fun e σ => ∃ env, lk env = e ∧ F' env σ) k m e σ := by
  intro F F' hF m
  induction m with
  | nil => rintro k e σ ⟨env, h1, h2⟩; exact ⟨env, h1, hF _ _ h2⟩
  | cons o m ih =>
   rintro k e σ (⟨h1, h2, R, h3, h4⟩ | ⟨h1, v, h2, h3⟩)
   ·exact .inl ⟨h1, h2, R, h3, fun v σ' hr => ⟨(h4 v σ' hr).1, ih _ _ _ (h4 v σ' hr).2⟩⟩
   ·exact .inr ⟨h1, v, h2, ih _ _ _ h3⟩
 exact ⟨mono _ _ (fun env σ h => zQ h) _ _ _ _ h.run⟩
theorem ret_is {fn : Func} {vs : List AV} {v : AV} {σ1 σ2 : List Ent} (hm : Marks mk σ1 σ2) (hr : Res P env σ2 fn.results.toList vs) (hs : σ.Sublist σ2) (e : oneA vs = v) : RetOK P fn (Is v σ) ⟨env, σ1, mk, n⟩ :=
 ⟨vs, σ2, hm, hr, fin_drop hs (zJ (by rw [e]; exact .mk))⟩
theorem tV {a b : Bool} (h : a = b) : oneA [.bool a] = .bool b := by rw [h]; rfl
theorem int_eq {k : IntKind} {a b : Int} (h : a = b) : oneA [.int k a] = .int k b := by rw [h]; rfl
end
def updA (f : Int → Option AV) (k : Int) (v : AV) : Int → Option AV := fun q => if q = k then some v else f q
def boolM (S : Int → Bool) : Int → Option AV := fun q => if S q then some (.bool true) else none
theorem boolM_getD (S : Int → Bool) (q : Int) : (boolM S q).getD (.bool false) = .bool (S q) := by unfold boolM; cases S q <;> rfl
theorem boolM_upd (S : Int → Bool) (k : Int) : updA (boolM S) k (.bool true) = boolM (fun q => S q || q == k) := by
 funext q
 unfold updA boolM
 by_cases h : q = k
 ·subst h; simp
 ·have : (q == k) = false := by simpa using h
  simp [h, this]
theorem boolM_list (l : List Int) (k : Int) : updA (boolM l.contains) k (.bool true) = boolM (l ++ [k]).contains := by
 rw [boolM_upd]; congr 1; funext q; simp only [List.contains_append, List.contains_cons, List.contains_nil, Bool.or_false]
theorem boolM_none : (fun _ => none : Int → Option AV) = boolM ([] : List Int).contains := by funext q; rfl
section
variable {P : Program} {ro : Option Nat} {env : Env} {σ σ' : List Ent} {o : Oper} {dst : Option Tmp} {ty : TypeId} {pos : String} {after : Array Edge} {guard : Option (Nat × Bool)}
inductive Mapped (σ : List Ent) : AV → List Ent → Prop
 | mk (b : Nat) : Mapped σ (.mp b) (.imap b (fun _ => none) 0 :: σ)
theorem g_makeMap {t : TypeId} : GOp P ro ⟨dst, .makeMap t none, ty, pos, after, guard⟩ env σ (Mapped σ) :=
 tW (by intro c h; cases h) fun X M a w hg ho => by
  refine ⟨M, .map (some w.heap.size), w.alloc (.map #[] 0), .mp w.heap.size, .imap w.heap.size (fun _ => none) 0 :: σ, Mem.le_refl M, ?_, by simp [VRel], .mk _, .inl ?_⟩
  ·exact hg.alloc _ _ rfl ⟨_, MapN.made w, fun k => trivial⟩
  ·simp [execOp, Instr.makeMap, newObj, Sem.run_bind, Sem.run]
def mapOf (P : Program) (t : TypeId) : Option TypeId := match P.underlying t with
 | some (.map kt et) => match P.underlying kt with
  | some (.int .i64) => some et
  | _ => none
 | _ => none
theorem mapOf_spec {t et : TypeId} (h : mapOf P t = some et) : ∃ kt, P.underlying t = some (.map kt et) ∧ P.underlying kt = some (.int .i64) := by
 unfold mapOf at h
 split at h
 ·rename_i kt et' h1
  split at h
  ·rename_i h2; cases h; exact ⟨kt, h1, h2⟩
  ·cases h
 ·cases h
def zeroV (P : Program) (t : TypeId) : Option AV := match (P.info? t).bind (·.zero) with
 | some (.agg cs) => some (.agg (cs.toList.map cA))
 | some v => some (cA v)
 | none => none
theorem zeroV_spec {t : TypeId} {z : AV} (h : zeroV P t = some z) : ∃ v, (∀ w, (zeroValue t).run P w = .ok v w) ∧ ∀ M, VRel M z v := by
 unfold zeroV at h
 cases hi : P.info? t with
 | none => rw [hi] at h; cases h
 | some i =>
  rw [hi] at h
  simp only [Option.bind_some] at h
  cases hz : i.zero with
  | none => rw [hz] at h; cases h
  | some v =>
   rw [hz] at h
   refine ⟨v, fun w => by simp [zeroValue, typeInfo, hi, hz, Sem.run_bind], fun M => ?_⟩
   split at h
   ·rename_i cs hcs; cases hcs; cases h; simp only [VRel]; exact ⟨cs, rfl, cAs_rel M _⟩
   ·rename_i hcs; cases hcs; cases h; exact cA_rel M _
   ·rename_i hcs; cases hcs
theorem g_lookup {t et : TypeId} {x ix : Operand} {b n : Nat} {f : Int → Option AV} {k : Int} {z v : AV} (ht : mapOf P t = some et) (hx : xP env x = some (.mp b)) (hm : Ent.imap b f n ∈ σ) (hi : xP env ix = some (.int .i64 k)) (hz : zeroV P et = some z) (hv : (f k).getD z = v) :
  GOp P ro ⟨dst, .lookup t x ix false, ty, pos, after, guard⟩ env σ (Is v σ) :=
 xZ v (by intro c h; cases h) fun X M a w hg ho => by
  have h1 := ho x (by simp [Op.operands]) _ hx
  have h2 := ho ix (by simp [Op.operands]) _ hi
  simp only [VRel] at h1 h2
  obtain ⟨kt, e1, e2⟩ := mapOf_spec ht
  obtain ⟨zv, hz1, hz2⟩ := zeroV_spec hz
  obtain ⟨g, hg1, hg2⟩ := hg.ent _ hm
  have hr := hg1.lookup (P := P) e1 e2 hz1 k
  refine ⟨(g k).getD zv, ?_, by simp [execOp, h1, h2, Sem.run_bind, hr]⟩
  have := hg2 k
  rw [← hv]
  cases hf : f k <;> cases hgk : g k <;> simp only [hf, hgk] at this
  ·exact hz2 M
  ·exact this
theorem g_lookupOk {t et : TypeId} {x ix : Operand} {b n : Nat} {f : Int → Option AV} {k : Int} {z v : AV} {ok : Bool} (ht : mapOf P t = some et) (hx : xP env x = some (.mp b)) (hm : Ent.imap b f n ∈ σ) (hi : xP env ix = some (.int .i64 k)) (hz : zeroV P et = some z) (hv : (f k).getD z = v) (hok : (f k).isSome = ok) :
  GOp P ro ⟨dst, .lookup t x ix true, ty, pos, after, guard⟩ env σ (Is (.tup [v, .bool ok]) σ) :=
 xZ _ (by intro c h; cases h) fun X M a w hg ho => by
  have h1 := ho x (by simp [Op.operands]) _ hx
  have h2 := ho ix (by simp [Op.operands]) _ hi
  simp only [VRel] at h1 h2
  obtain ⟨kt, e1, e2⟩ := mapOf_spec ht
  obtain ⟨zv, hz1, hz2⟩ := zeroV_spec hz
  obtain ⟨g, hg1, hg2⟩ := hg.ent _ hm
  have hr := hg1.lookup_ok (P := P) e1 e2 hz1 k
  refine ⟨.tuple #[(g k).getD zv, .bool (g k).isSome], ?_, by simp [execOp, h1, h2, Sem.run_bind, hr]⟩
  have := hg2 k
  simp only [VRel]
  refine ⟨_, rfl, ?_⟩
  have e3 : VRel M v ((g k).getD zv) ∧ (g k).isSome = ok := by
   rw [← hv, ← hok]
   cases hf : f k <;> cases hgk : g k <;> simp only [hf, hgk] at this
   ·exact ⟨hz2 M, rfl⟩
   ·exact ⟨this, rfl⟩
  simp only [VRels]
  exact ⟨_, _, rfl, e3.1, _, _, rfl, by rw [e3.2]; simp [VRel], rfl⟩
theorem g_mapUpdate {t et : TypeId} {x ix y : Operand} {b n : Nat} {f f' : Int → Option AV} {k : Int} {v : AV} (ht : mapOf P t = some et) (hx : xP env x = some (.mp b)) (hi : xP env ix = some (.int .i64 k)) (hy : xP env y = some v) (hu : Upd σ (.imap b f n) (.imap b f' (if (f k).isSome then n else n + 1)) σ') (hf : updA f k v = f') :
  GOp P ro ⟨dst, .mapUpdate t x ix y, ty, pos, after, guard⟩ env σ (Is (.raw undef) σ') :=
 tW (by intro c h; cases h) fun X M a w hg ho => by
  have h1 := ho x (by simp [Op.operands]) _ hx
  have h2 := ho ix (by simp [Op.operands]) _ hi
  have h3 := ho y (by simp [Op.operands]) _ hy
  simp only [VRel] at h1 h2
  obtain ⟨kt, e1, e2⟩ := mapOf_spec ht
  obtain ⟨g, hg1, hg2⟩ := hg.ent _ hu.mem
  obtain ⟨w', hr, hm', hgr, hsz, _⟩ := hg1.update (P := P) e1 e2 k (a.eval y)
  refine ⟨M, undef, w', .raw undef, σ', Mem.le_refl M, ?_, by simp [VRel], .mk, .inr ⟨?_, rfl⟩⟩
  ·refine hg.upd hu hgr.os hgr.tape hgr.output (fun q hq hne => hgr.block q hq (fun e => hne e.symm)) ⟨upd g k (a.eval y), ?_, fun q => ?_⟩ (.inl rfl)
   ·have hk := hg2 k
    have e : (g k).isSome = (f k).isSome := by cases hf : f k <;> cases hgk : g k <;> simp only [hf, hgk] at hk <;> rfl
    rw [e] at hm'
    exact hm'
   ·rw [← hf]
    unfold updA upd
    by_cases hq : q = k
    ·simp only [if_pos hq]; exact h3
    ·simp only [if_neg hq]; exact hg2 q
  ·simp [execOp, h1, h2, Sem.run_bind, hr]
end
section
variable {P : Program} {ro : Option Nat} {Q : Exit → St → Prop} {ops : Array Oper} {rest : List Oper} {o : Oper} {env : Env} {σ : List Ent} {mk : List Nat} {n : Nat}
theorem exl_map {d : Nat} (hgd : o.guard = none) (hd : o.dst = some d) (hn : Nat.blt d n = true) (hg : GOp P ro o env σ (Mapped σ)) (h : ∀ b, EXL P ro ops rest Q ⟨(d, .mp b) :: env, .imap b (fun _ => none) 0 :: σ, mk, n⟩) : EXL P ro ops (o :: rest) Q ⟨env, σ, mk, n⟩ :=
 exl_plain (s := ⟨env, σ, mk, n⟩) hgd (dst_ok hd hn) hg (by rintro _ _ ⟨b⟩; rw [hd]; exact h b)
end
structure SRound (P : Program) (l : Nat) (args : List AV) (σ : List Ent) (Q : AV → List Ent → Prop) : Prop where
 run : ∀ X M w (vs : Array Value), Good X M σ w → VRels M args vs.toList → ∃ f tmps asg body, (Instr.yield l vs).run P w = .ok (.round l f tmps asg body) w ∧
  RoundIn Fence.wide 0 P l f tmps asg body w fun e w' => ∃ M' σ' r v, M.le M' ∧ Good X M' σ' w' ∧ VRel M' r v ∧ e = .returned v ∧ Q r σ'
theorem SRound.sub {P : Program} {l : Nat} {args : List AV} {σ : List Ent} {Q : AV → List Ent → Prop} (h : SRound P l args σ (fun r σ' => ∃ σ2, σ2.Sublist σ' ∧ Q r σ2)) : SRound P l args σ Q :=
 ⟨fun X M w vs hg ha => by
  obtain ⟨f, tmps, asg, body, h1, h2⟩ := h.run X M w vs hg ha
  exact ⟨f, tmps, asg, body, h1, h2.mono fun _ _ ⟨M', σ', r, v, k1, k2, k3, k4, σ2, hs, hq⟩ => ⟨M', σ2, r, v, k1, k2.sub hs, k3, k4, hq⟩⟩⟩
section
variable {P : Program} {ro : Option Nat} {env : Env} {σ σ' : List Ent} {o : Oper} {dst : Option Tmp} {ty : TypeId} {pos : String} {after : Array Edge} {guard : Option (Nat × Bool)}
theorem g_yield {f : Operand} {args : Array Operand} {ats : Array TypeId} {l : Nat} {asl : List AV} {Q : AV → List Ent → Prop} (hf : xP env f = some (.fn (.yield l) [] [])) (hl : evAs env args.toList = some asl) (h : SRound P l asl σ Q) :
  GOp P ro ⟨dst, .call { callee := .value f, args := args, argTypes := ats }, ty, pos, after, guard⟩ env σ Q := by
 refine ⟨fun X M a w hg ho K Qx hK => ?_⟩
 have h1 := ho f (by simp [Op.operands, Call.operands]) _ hf
 simp only [VRel, VRels] at h1
 obtain ⟨vs, ws, hv, k1, k2⟩ := h1
 have e1 : vs = #[] := by apply Array.ext'; simpa using k1
 have e2 : ws = #[] := by apply Array.ext'; simpa using k2
 subst e1 e2
 have k3 := evAs_rel (a := a) (M := M) (fun x hx v hv => ho x (by simp only [Op.operands, Call.operands, Array.mem_append]; exact .inr (by simpa using hx)) v hv) hl
 obtain ⟨fn, tmps, asg, body, hy, hr⟩ := h.run X M w (args.map a.eval) hg (by simpa using k3)
 refine ⟨fun f _ => uB f ro, ?_⟩
 rw [Oper.semAt_eq _ _ _ (by intro c h; cases h)]
 have hrun : (execOp a.eval ⟨dst, .call { callee := .value f, args := args, argTypes := ats }, ty, pos, after, guard⟩).run P w = .ok (.round l fn tmps asg body) w := by
  simp only [execOp, resolve, Sem.run_bind, hv, Deferred.ofValue, Sem.run_pure, Result.andThen_ok, invoke]
  simpa using hy
 rw [hrun]
 have hr2 : RoundIn (uP ro) 0 P l fn tmps asg body w _ := hr
 refine ⟨fun hd => (by cases hd), RoundIn.mono hr2 ?_⟩
 rintro e w' ⟨M', σ', r, v, hm, hg', hv', rfl, hq⟩
 exact hK M' v w' r σ' hm hg' hv' hq
def putAll : List Tmp → List AV → Env → Env
 | p :: ps, v :: vs, env => putAll ps vs ((p, v) :: env)
 | _, _, env => env
def jumpOf : Exit → Option (Option Code)
 | .normal => some none
 | .ret => some (some .ret)
 | .exit id => some (some (.exit id))
 | .goto l => some (some (.goto l))
 | _ => none
def rndA (l : Nat) (fn : FuncId) (env : Env) (n : Nat) (ps : Array Tmp) (asg body : Code) (D : Nat) (Q : AV → List Ent → Prop) : Exit → St → Prop := fun e s =>
 ∃ j σ', jumpOf e = some j ∧ Upd s.σ (.loop l .busy none fn env n ps asg body D) (.loop l (if j.isNone then .ready else .done) j fn env n ps asg body D) σ' ∧ Q (.bool j.isNone) σ'
theorem putAll_rel {M : Mem} : ∀ (ps : List Tmp) (vs : List AV) (us : List Value) (env : Env) (tmps : Array Value), EnvRel M env tmps → VRels M vs us → (∀ p ∈ ps, p < tmps.size) → us.length = ps.length → EnvRel M (putAll ps vs env) ((ps.zip us).foldl (fun t (p : Tmp × Value) => t.setIfInBounds p.1 p.2) tmps)
 | [], vs, us, env, tmps, h, _, _, _ => by simpa [putAll] using h
 | p :: ps, [], us, env, tmps, h, hv, _, hl => by simp only [VRels] at hv; subst hv; simp at hl
 | p :: ps, v :: vs, us, env, tmps, h, hv, hp, hl => by
  simp only [VRels] at hv
  obtain ⟨u, us', rfl, k1, k2⟩ := hv
  simp only [putAll, List.zip_cons_cons, List.foldl_cons]
  refine putAll_rel ps vs us' _ _ ?_ k2 (fun q hq => by simpa using hp q (by simp [hq])) (by simpa using hl)
  intro t x hx
  by_cases e : p = t
  ·subst e
   rw [vS] at hx
   cases hx
   exact ⟨u, by rw [Array.getElem?_setIfInBounds_self_of_lt (hp p (by simp))], k1⟩
  ·rw [tL e] at hx
   obtain ⟨u', h1, h2⟩ := h t x hx
   exact ⟨u', by rw [Array.getElem?_setIfInBounds_ne e]; exact h1, h2⟩
theorem upd_loop {X : Fx} {M : Mem} {w : World} {l fn n D : Nat} {st st' : LoopState} {pe pe' : Option Code} {env : Env} {ps : Array Tmp} {asg body : Code} {tmps : Array Value} (hg : Good X M σ w) (hu : Upd σ (.loop l st pe fn env n ps asg body D) (.loop l st' pe' fn env n ps asg body D) σ')
  (h1 : tmps.size = n) (h2 : EnvRel M env tmps) (h3 : w.heap[l]? = some (.loop { state := st, pending := pe, fn := fn, tmps := tmps, params := ps, assign := asg, body := body, defers := D })) :
  Good X M σ' (w.putObj l (.loop { state := st', pending := pe', fn := fn, tmps := tmps, params := ps, assign := asg, body := body, defers := D })) :=
 hg.upd hu rfl rfl rfl (fun k _ hne => World.putObj_heap_other (fun e => hne (by simp [Ent.block, e]))) ⟨tmps, h1, h2, World.putObj_heap_same (Array.getElem?_eq_some_iff.1 h3).1⟩ (.inl rfl)
theorem sround {l fn n D : Nat} {ps : Array Tmp} {asg body : Code} {args : List AV} {Q : AV → List Ent → Prop} (hm : Ent.loop l .ready none fn env n ps asg body D ∈ σ) (hps : ps.size = args.length) (hpn : ∀ p ∈ ps.toList, p < n)
  (h : EX P (some l) asg (zA (fun s => ∃ σ', Upd s.σ (.loop l .ready none fn env n ps asg body D) (.loop l .busy none fn env n ps asg body D) σ' ∧ EX P (some l) body (rndA l fn env n ps asg body D Q) ⟨s.env, σ', s.marks, s.n⟩) (fun _ _ => False)) ⟨putAll ps.toList args env, σ, [], n⟩) :
  SRound P l args σ Q := by
 refine ⟨fun X0 M w vs hg0 ha => ?_⟩
 obtain ⟨X, hX⟩ : ∃ X : Fx, X = { X0 with dt := [] } := ⟨_, rfl⟩
 have hg : Good X M σ w := hX ▸ hg0.dt []
 have back : ∀ {M σ w}, Good X M σ w → Good X0 M σ w := fun h => (hX ▸ h : Good { X0 with dt := [] } _ _ _).undt
 obtain ⟨tmps, h1, h2, h3⟩ := hg.ent _ hm
 have hl := ha.length
 simp only [Array.length_toList] at hl
 have hy := run_yield (P := P) (args := vs) h3 (by simp only; omega)
 refine ⟨fn, _, asg, body, hy, roundIn_of_wpIn trivial ?_⟩
 have hfold : (ps.zip vs).foldl (fun t (x : Tmp × Value) => t.setIfInBounds x.1 x.2) tmps = (ps.toList.zip vs.toList).foldl (fun t (x : Tmp × Value) => t.setIfInBounds x.1 x.2) tmps := by
  rw [← Array.foldl_toList, Array.toList_zip]
 have hsz : ∀ (z : List (Tmp × Value)) (t : Array Value), (z.foldl (fun t (x : Tmp × Value) => t.setIfInBounds x.1 x.2) t).size = t.size := by
  intro z
  induction z with
  | nil => intro t; rfl
  | cons x z ih => intro t; simp only [List.foldl_cons]; rw [ih]; simp
 have hs : Sim X M ⟨putAll ps.toList args env, σ, [], n⟩ { tmps := (ps.zip vs).foldl (fun t (x : Tmp × Value) => t.setIfInBounds x.1 x.2) tmps, defers := [] } w := by
  refine ⟨hg, ?_, by rw [hX]; rfl, ?_⟩
  ·simp only [hfold, hsz, h1]
  ·simp only [hfold]
   exact putAll_rel ps.toList args vs.toList env tmps h2 ha (fun p hp => by rw [h1]; exact hpn p hp) (by simp; omega)
 refine Go.wpIn_mono (h.run X M _ w hs) ?_
 rintro e a1 w1 ⟨M1, s1, hm1, hs1, hq⟩
 cases e with
 | normal =>
  obtain ⟨σb, hub, hbody⟩ := hq
  obtain ⟨tmps1, t1, t2, t3⟩ := hs1.good.ent _ hub.mem
  have hbr := run_beginRound (P := P) t3 rfl
  refine ⟨_, hbr, ?_⟩
  have hgb := upd_loop hs1.good hub t1 t2 t3
  refine Go.wpIn_mono (hbody.run X M1 a1 _ ⟨hgb, hs1.size, hs1.defs, hs1.env⟩) ?_
  rintro e2 a2 w2 ⟨M2, s2, hm2, hs2, j, σ2, hj, hu2, hq2⟩
  obtain ⟨tmps2, r1, r2, r3⟩ := hs2.good.ent _ hu2.mem
  have her := run_endRound (P := P) j r3
  have hg2 := upd_loop hs2.good hu2 r1 r2 r3
  have fin : ∃ v w', (Instr.endRound l j).run P w2 = .ok v w' ∧ ∃ M' σ' r v', M.le M' ∧ Good X0 M' σ' w' ∧ VRel M' r v' ∧ Ending.returned v = .returned v' ∧ Q r σ' :=
   ⟨_, _, her, M2, σ2, .bool j.isNone, _, Mem.le_trans hm1 hm2, back hg2, by simp [VRel], rfl, hq2⟩
  cases e2 with
  | normal => simp only [jumpOf, Option.some.injEq] at hj; subst hj; exact fin
  | ret => simp only [jumpOf, Option.some.injEq] at hj; subst hj; exact fin
  | exit id => simp only [jumpOf, Option.some.injEq] at hj; subst hj; exact fin
  | goto t => simp only [jumpOf, Option.some.injEq] at hj; subst hj; exact fin
  | panic ch => cases hj
  | outgrown => cases hj
 | exit id => exact hq.elim
 | goto l => exact hq.elim
 | ret => exact hq.elim
 | panic ch => exact hq.elim
 | outgrown => exact hq.elim
end
inductive RangeEnd (P : Program) (ro : Option Nat) (l fn : Nat) (env : Env) (n : Nat) (ps : Array Tmp) (asg body : Code) (D : Nat) (Q : Exit → St → Prop) (mk : List Nat) : AV → List Ent → Prop
 | done {r : AV} {σ σ' : List Ent} (hr : Rem σ (.loop l .ready none fn env n ps asg body D) σ') (h : Q .normal ⟨env, σ', mk, n⟩) : RangeEnd P ro l fn env n ps asg body D Q mk r σ
 | jump {r : AV} {σ σ' : List Ent} {c : Code} (hr : Rem σ (.loop l .done (some c) fn env n ps asg body D) σ') (h : EX P ro c Q ⟨env, σ', mk, n⟩) : RangeEnd P ro l fn env n ps asg body D Q mk r σ
section
variable {P : Program} {Q : Exit → St → Prop} {env : Env} {σ : List Ent} {mk : List Nat} {n : Nat}
theorem range_end {ro : Option Nat} {X : Fx} {M M2 : Mem} {l fn D : Nat} {ps : Array Tmp} {asg body : Code} {σ2 : List Ent} {r : AV} {a : Act} {w2 : World} {ds : List Deferred} {rv : Value} (hm : M.le M2) (hg2 : Good X M2 σ2 w2) (hsz : a.tmps.size = n) (henv : EnvRel M env a.tmps) (hds : ds = marksD mk ++ X.dt)
  (hq : RangeEnd P ro l fn env n ps asg body D Q mk r σ2) : rangePost (uP ro) 0 P l (postA X M Q) { a with defers := ds } (.returned rv) w2 := by
 cases hq with
 | done hr h =>
  obtain ⟨x, y, rfl, rfl⟩ := hr.split
  obtain ⟨tmps, t1, t2, t3⟩ := hg2.ent (.loop l .ready none fn env n ps asg body D) (by simp)
  have hel := run_endLoop (P := P) t3 (by simp)
  refine ⟨_, _, hel, M2, _, hm, ⟨hg2.rem hr rfl rfl rfl (fun k hk => World.putObj_heap_other (fun e => hk (by simp [Ent.block, e]))), hsz, hds, henv.mono hm⟩, h⟩
 | @jump _ c hr h =>
  obtain ⟨x, y, rfl, rfl⟩ := hr.split
  obtain ⟨tmps, t1, t2, t3⟩ := hg2.ent (.loop l .done (some c) fn env n ps asg body D) (by simp)
  have hel := run_endLoop (P := P) t3 (by simp)
  refine ⟨_, _, hel, ?_⟩
  exact Go.wpIn_mono (h.run X M2 _ _ ⟨hg2.rem hr rfl rfl rfl (fun k hk => World.putObj_heap_other (fun e => hk (by simp [Ent.block, e]))), hsz, hds, henv.mono hm⟩) fun _ _ _ hp => vB hm (fun _ _ h => h) hp
theorem ex_range {g : Operand} {ps : Array Tmp} {asg body : Code} {f : FuncId} {first cap : List AV} (hg : xP env g = some (.fn (.func f) first cap)) (he : Enters P f)
  (h : ∀ D l fn, SCall P f (first ++ [.fn (.yield l) [] []] ++ cap) (.loop l .ready none fn env n ps asg body D :: .obj D (.deferred (some [])) :: σ) (RangeEnd P none l fn env n ps asg body D Q (D :: mk))) :
  EX P none (.rangeFunc g ps asg body) Q ⟨env, σ, mk, n⟩ := by
 refine ⟨fun X M a w hs => wpIn_rangeFunc ?_⟩
 intro fn _
 have hgv := hs.env.eval hg
 simp only [VRel] at hgv
 obtain ⟨vs, ws, hv, k1, k2⟩ := hgv
 have hg1 : Good X M (.obj w.heap.size (.deferred (some [])) :: σ) (w.alloc (.deferred (some []))) := hs.good.alloc _ _ rfl (World.alloc_heap_new w _)
 have hg2 := hg1.alloc (.loop { state := .ready, pending := none, fn := fn, tmps := a.tmps, params := ps, assign := asg, body := body, defers := w.heap.size }) (.loop (w.alloc (.deferred (some []))).heap.size .ready none fn env n ps asg body w.heap.size) rfl ⟨a.tmps, hs.size, hs.env, World.alloc_heap_new _ _⟩
 have hsz1 : (w.alloc (.deferred (some []))).heap.size = w.heap.size + 1 := World.size_alloc ..
 rw [hsz1] at hg2
 obtain ⟨W, hW⟩ : ∃ W, W = (w.alloc (.deferred (some []))).alloc (.loop { state := .ready, pending := none, fn := fn, tmps := a.tmps, params := ps, assign := asg, body := body, defers := w.heap.size }) := ⟨_, rfl⟩
 rw [← hW] at hg2
 refine ⟨w.heap.size + 1, [{ target := .collected w.heap.size, args := #[] }], W, { target := .fn (.func f) ws, args := vs ++ #[.func (.yield (w.heap.size + 1)) #[] #[]] }, W, f, vs ++ #[.func (.yield (w.heap.size + 1)) #[] #[]] ++ ws, W, by rw [hW]; exact run_enterLoop_outer _ _ _ _ _, ?_, fun _ _ => trivial, ?_, fun hd => (by cases hd), ?_⟩
 ·simp only [resolve, hv]
  simp [go_sem]
 ·simp only [invoke]
  exact he _ _
 ·refine callsIn_fence (ro := none) (((h w.heap.size (w.heap.size + 1) fn).run X M _ _ hg2 ?_).mono ?_)
  ·have hy : VRels M [AV.fn (.yield (w.heap.size + 1)) [] []] [Value.func (.yield (w.heap.size + 1)) #[] #[]] := by simp [VRels, VRel]
   simpa using (k1.append hy).append k2
  ·rintro e w2 ⟨M2, σ2, r, v, hm, hgd, hrel, rfl, hq⟩
   exact range_end (ro := none) hm hgd hs.size hs.env (by rw [hs.defs]; rfl) hq
end
section
variable {P : Program} {ro : Option Nat} {Q : Exit → St → Prop} {ops : Array Oper} {rest : List Oper} {o : Oper} {env : Env} {σ : List Ent} {mk : List Nat} {n : Nat}
theorem ret_q {fn : Func} {vs : List AV} {σ1 σ2 σ3 : List Ent} {R : AV → List Ent → Prop} (hm : Marks mk σ1 σ2) (hr : Res P env σ2 fn.results.toList vs) (hs : σ3.Sublist σ2) (h : Fin σ3 (oneA vs) R) : RetOK P fn R ⟨env, σ1, mk, n⟩ :=
 ⟨vs, σ2, hm, hr, fin_drop hs h⟩
end
open Go
theorem wP {n b : Nat} (h : n ≤ 2147483648) (hb : Nat.ble b 65536 = true) : n * b ≤ 140737488355328 :=
 Nat.mul_le_mul h (q_b hb)
section
variable {P : Program} {ro : Option Nat} {env : Env} {σ : List Ent} {o : Oper} {dst : Option Tmp} {ty : TypeId} {pos : String} {after : Array Edge} {guard : Option (Nat × Bool)}
def eqFs (P : Program) : List Field → Nat → List AV → List AV → Option Bool
 | [], _, _, _ => some true
 | f :: fs, i, .int k a :: xs, .int k' b :: ys => match P.underlying f.type, P.info? f.type, decide (f.name ≠ "_"), f.offset == i, decide (k = k') with
  | some (.int _), some _, true, true, true => (eqFs P fs (i + 1) xs ys).map ((a == b) && ·)
  | _, _, _, _, _ => none
 | f :: fs, i, .bool a :: xs, .bool b :: ys => match P.underlying f.type, P.info? f.type, decide (f.name ≠ "_"), f.offset == i with
  | some .bool, some _, true, true => (eqFs P fs (i + 1) xs ys).map ((a == b) && ·)
  | _, _, _, _ => none
 | _, _, _, _ => none
theorem qF {t : TypeId} {cs : Array Value} {off : Nat} {v : Value} {w : World} (ha : (isAgg t).run P w = .ok false w) (hv : cs[off]? = some v) : (part t cs off).run P w = .ok v w := by
 simp [part, Sem.run_bind, ha, hv]
theorem isAgg_int {t : TypeId} {k : IntKind} {i : TypeInfo} (h : P.underlying t = some (.int k)) (hi : P.info? t = some i) (w : World) : (isAgg t).run P w = .ok false w := (tU (b := false) (sz := i.size) (by simp [tyOf, h, hi]) w).1
theorem isAgg_bool {t : TypeId} {i : TypeInfo} (h : P.underlying t = some .bool) (hi : P.info? t = some i) (w : World) : (isAgg t).run P w = .ok false w := (tU (b := false) (sz := i.size) (by simp [tyOf, h, hi]) w).1
theorem run_eqFs {M : Mem} {d : Nat} {w : World} {vs us : Array Value} : ∀ {fs : List Field} {i : Nat} {xs ys : List AV} {r : Bool}, eqFs P fs i xs ys = some r → (∀ (j : Nat) x, xs[j]? = some x → ∃ v, vs[i + j]? = some v ∧ VRel M x v) → (∀ (j : Nat) x, ys[j]? = some x → ∃ v, us[i + j]? = some v ∧ VRel M x v) →
  (Op.eqFields (d + 1) vs us fs).run P w = .ok r w
 | [], i, xs, ys, r, h, _, _ => by simp only [eqFs, Option.some.injEq] at h; subst h; simp [Op.eqFields]
 | f :: fs, i, xs, ys, r, h, h1, h2 => by
  unfold eqFs at h
  split at h
  ·cases ‹_ :: _ = []›
  ·rename_i i _ _ _ _ f' fs' k a xs k' b ys heq
   cases heq
   split at h
   ·rename_i k0 i0 hu hi0 hname hoff hk
    simp only [Option.map_eq_some_iff] at h
    obtain ⟨r', h, rfl⟩ := h
    have hk : k = k' := by simpa using hk
    have hoff : f.offset = i := by simpa using hoff
    have hname : f.name ≠ "_" := by simpa using hname
    obtain ⟨v, hv, hrv⟩ := h1 0 _ rfl
    obtain ⟨u, hu', hru⟩ := h2 0 _ rfl
    simp only [VRel] at hrv hru
    subst hrv hru hk
    have ih := run_eqFs (d := d) (w := w) (i := i + 1) h (fun j x hx => by have := h1 (j + 1) x (by simpa using hx); rwa [show i + (j + 1) = i + 1 + j by omega] at this) (fun j x hx => by have := h2 (j + 1) x (by simpa using hx); rwa [show i + (j + 1) = i + 1 + j by omega] at this)
    have e1 := qF (P := P) (isAgg_int hu hi0 w) (show vs[f.offset]? = some (.int k a) by rw [hoff]; simpa using hv)
    have e2 := qF (P := P) (isAgg_int hu hi0 w) (show us[f.offset]? = some (.int k b) by rw [hoff]; simpa using hu')
    simp only [Op.eqFields, if_pos hname, Sem.run_bind, e1, e2, Result.andThen_ok, run_equalIn_int w d f.type k _ a b hu]
    cases hab : a == b
    ·simp
    ·simpa using ih
   ·cases h
  ·rename_i i _ _ _ _ f' fs' a xs b ys heq
   cases heq
   split at h
   ·rename_i i0 hu hi0 hname hoff
    simp only [Option.map_eq_some_iff] at h
    obtain ⟨r', h, rfl⟩ := h
    have hoff : f.offset = i := by simpa using hoff
    have hname : f.name ≠ "_" := by simpa using hname
    obtain ⟨v, hv, hrv⟩ := h1 0 _ rfl
    obtain ⟨u, hu', hru⟩ := h2 0 _ rfl
    simp only [VRel] at hrv hru
    subst hrv hru
    have ih := run_eqFs (d := d) (w := w) (i := i + 1) h (fun j x hx => by have := h1 (j + 1) x (by simpa using hx); rwa [show i + (j + 1) = i + 1 + j by omega] at this) (fun j x hx => by have := h2 (j + 1) x (by simpa using hx); rwa [show i + (j + 1) = i + 1 + j by omega] at this)
    have e1 := qF (P := P) (isAgg_bool hu hi0 w) (show vs[f.offset]? = some (.bool a) by rw [hoff]; simpa using hv)
    have e2 := qF (P := P) (isAgg_bool hu hi0 w) (show us[f.offset]? = some (.bool b) by rw [hoff]; simpa using hu')
    simp only [Op.eqFields, if_pos hname, Sem.run_bind, e1, e2, Result.andThen_ok, run_equalIn_bool' w d f.type a b hu]
    cases hab : a == b
    ·simp
    ·simpa using ih
   ·cases h
  ·cases h
def eqTyB (P : Program) (t : TypeId) : Bool := !P.eqGuardType P.depth t && !P.stoodInHeld t
theorem eqTy_spec {t : TypeId} {fs : Array Field} (h : P.underlying t = some (.struct fs)) (hb : eqTyB P t = true) : P.underlying t = some (.struct (P.fieldsOf t)) ∧ P.fieldsOf t = fs ∧ P.eqGuardType P.depth t = false ∧ P.stoodInHeld t = false := by
 have e : P.fieldsOf t = fs := by unfold Program.fieldsOf; rw [h]
 simp only [eqTyB, Bool.and_eq_true, Bool.not_eq_true'] at hb
 exact ⟨by rw [e]; exact h, e, hb.1, hb.2⟩
theorem g_neqAgg {x y : Operand} {t yt : TypeId} {fs : Array Field} {l m : List AV} {b : Bool} (ht : P.underlying t = some (.struct fs)) (hq : eqTyB P t = true) (hx : xP env x = some (.agg l)) (hy : xP env y = some (.agg m)) (hb : eqFs P fs.toList 0 l m = some b) :
  GOp P ro ⟨dst, .binOp .neq t x y yt, ty, pos, after, guard⟩ env σ (Is (.bool (!b)) σ) :=
 xZ _ (by intro c h; cases h) fun X M e w hg ho => by
  have h1 := ho x (by simp [Op.operands]) _ hx
  have h2 := ho y (by simp [Op.operands]) _ hy
  simp only [VRel] at h1 h2
  obtain ⟨vs, e1, k1⟩ := h1
  obtain ⟨us, e2, k2⟩ := h2
  obtain ⟨c1, c2, c3, c4⟩ := eqTy_spec ht hq
  refine ⟨.bool (!b), by simp [VRel], ?_⟩
  have hr := run_eqFs (P := P) (d := 9998) (w := w) hb (vs := vs) (us := us) (M := M) (fun j x hx => by obtain ⟨v, a, b⟩ := k1.get hx; exact ⟨v, by simpa using a, b⟩) (fun j x hx => by obtain ⟨v, a, b⟩ := k2.get hx; exact ⟨v, by simpa using a, b⟩)
  simp only [execOp, e1, e2, Sem.run_bind, run_eqGuard_agg w .neq t x y vs us c3, Result.andThen_ok, run_neq_struct, run_equalIn_agg w 9999 t vs us c1 c4, c2, hr]
  rfl
theorem run_equalIn_nil {t e : TypeId} (ht : P.underlying t = some (.slice e)) (d : Nat) (a : Addr) (n c : Nat) (w : World) : (Op.equalIn (d + 1) t (.slice (some a) n c) (.slice none 0 0)).run P w = .ok false w := by
 simp only [Op.equalIn, Sem.run_bind, run_underlying ht, Result.andThen_ok, Sem.run_pure]
theorem run_eql_nil {t e : TypeId} (ht : P.underlying t = some (.slice e)) (a : Addr) (n c : Nat) (w : World) : (binOp .eql t (.slice (some a) n c) (.slice none 0 0)).run P w = .ok (.bool false) w := by
 have h := run_equalIn_nil (P := P) ht 9999 a n c w
 simp only [binOp]
 simp only [Op.equal, Op.maxDepth, Sem.run_bind, Sem.run_map, h]
 rfl
theorem g_eqlNil {x : Operand} {t e yt : TypeId} {sz : Nat} {L : List (List AV)} (ht : P.underlying t = some (.slice e)) (hx : xP env x = some (.dl sz L)) (hL : 0 < L.length) :
  GOp P ro ⟨dst, .binOp .eql t x (.const nilS) yt, ty, pos, after, guard⟩ env σ (Is (.bool false) σ) :=
 xZ _ (by intro c h; cases h) fun X M en w hg ho => by
  have h1 := ho x (by simp [Op.operands]) _ hx
  simp only [VRel] at h1
  obtain ⟨a, cap, hv, _, _, _, h2⟩ := h1
  rcases h2 with rfl | ⟨b, off, rfl, _⟩
  ·simp at hL
  refine ⟨.bool false, by simp [VRel], ?_⟩
  have e : en.eval (.const nilS) = nilS := rfl
  simp only [execOp, e, hv, Sem.run_bind, run_eql_nil ht]
  rfl
theorem g_max {x y : Operand} {ats : Array TypeId} {k k' : IntKind} {a b : Int} (hx : xP env x = some (.int k a)) (hy : xP env y = some (.int k' b)) :
  GOp P ro ⟨dst, .call { callee := .builtin .max, args := #[x, y], argTypes := ats }, ty, pos, after, guard⟩ env σ (Is (.int k (max a b)) σ) :=
 xZ _ (by intro c h; cases h) fun X M e w hg ho => by
  have h1 := ho x (by simp [Op.operands, Call.operands]) _ hx
  have h2 := ho y (by simp [Op.operands, Call.operands]) _ hy
  simp only [VRel] at h1 h2
  refine ⟨.int k (max a b), by simp [VRel], ?_⟩
  have e : (if b > a then b else a) = max a b := by split <;> omega
  simp [execOp, resolve, invoke, builtin, h1, h2, Sem.run_bind, run_max_int2, e]
theorem g_min {x y : Operand} {ats : Array TypeId} {k k' : IntKind} {a b : Int} (hx : xP env x = some (.int k a)) (hy : xP env y = some (.int k' b)) :
  GOp P ro ⟨dst, .call { callee := .builtin .min, args := #[x, y], argTypes := ats }, ty, pos, after, guard⟩ env σ (Is (.int k (min a b)) σ) :=
 xZ _ (by intro c h; cases h) fun X M e w hg ho => by
  have h1 := ho x (by simp [Op.operands, Call.operands]) _ hx
  have h2 := ho y (by simp [Op.operands, Call.operands]) _ hy
  simp only [VRel] at h1 h2
  refine ⟨.int k (min a b), by simp [VRel], ?_⟩
  have e : (if b < a then b else a) = min a b := by split <;> omega
  simp [execOp, resolve, invoke, builtin, h1, h2, Sem.run_bind, run_min_int2, e]
theorem flatten_set {sz : Nat} : ∀ {l : List (List AV)} {k : Nat} {y : List AV}, (∀ x ∈ l, x.length = sz) → y.length = sz → k < l.length → (l.set k y).flatten = l.flatten.take (k * sz) ++ y ++ l.flatten.drop (k * sz + y.length)
 | [], k, y, _, _, h => by simp at h
 | x :: l, 0, y, hs, hy, _ => by
  have hx := hs x (by simp)
  simp [hy, ← hx]
 | x :: l, k + 1, y, hs, hy, hk => by
  have hx := hs x (by simp)
  have ih := flatten_set (l := l) (k := k) (fun z hz => hs z (by simp [hz])) hy (by simpa using hk)
  have e1 : (k + 1) * sz = x.length + k * sz := by rw [Nat.add_mul, hx]; omega
  have e2 : (k + 1) * sz + y.length = x.length + (k * sz + y.length) := by omega
  simp only [List.set_cons_succ, List.flatten_cons, ih]
  rw [e2, e1, List.take_length_add_append, List.drop_length_add_append]
  simp
theorem flatten_size {sz : Nat} : ∀ {l : List (List AV)}, (∀ x ∈ l, x.length = sz) → l.flatten.length = l.length * sz
 | [], _ => by simp
 | x :: l, h => by
  have h1 := h x (by simp)
  have ih := flatten_size (l := l) (fun z hz => h z (by simp [hz]))
  simp only [List.flatten_cons, List.length_append, ih, h1, List.length_cons, Nat.add_mul]; omega
theorem vY {t e : TypeId} {x y : Operand} {k sz : Nat} {g : Bool} {v : AV} {u : Value} {l : List (List AV)} {σ' : List Ent} (ht : tyOf P t = some (g, sz)) (hx : xP env x = some (.rptr u (k * sz))) (hy : xP env y = some v) (h1 : isOne v = true) (ha : v.cells.all AV.one = true) (hsz : v.cells.length = sz)
  (hk : k < l.length) (hu : Upd σ (.row u e sz l) (.row u e sz (l.set k v.cells)) σ') : GOp P ro ⟨dst, .store t x y, ty, pos, after, guard⟩ env σ (Is (.raw undef) σ') := by
 refine ⟨fun X M a w hg => ?_⟩
 obtain ⟨xs, _, _, hs⟩ := hg.ent _ hu.mem
 have hfl := flatten_size hs
 have hle : (k + 1) * sz ≤ l.length * sz := Nat.mul_le_mul_right _ hk
 rw [Nat.add_mul] at hle
 have hb : k * sz + v.cells.length ≤ l.flatten.length := by omega
 exact (g_storeRow (l := l) (l' := l.set k v.cells) ht hx hy h1 ha hsz (by omega) (by rw [setL_eq _ _ _ hb]; exact flatten_set hs hsz hk) (by simp) (fun z hz => by rcases List.mem_or_eq_of_mem_set hz with h | rfl; exact hs z h; exact hsz) hu).run X M a w hg
theorem g_sliceMap {α : Type} {f : α → List AV} {t e : TypeId} {sz : Nat} {x : Operand} {lo hi : Option Operand} {L : List α} {l h : Nat} {li hj : Int} (ht : tB P t = some (e, sz)) (hx : xP env x = some (.dl sz (L.map f))) (hlo : tA env 0 lo = some li) (hhi : tA env (L.map f).length hi = some hj)
  (hl : li = (l : Int)) (hh : hj = (h : Int)) (hlh : li ≤ hj ∧ hj ≤ (L.length : Int)) : GOp P ro ⟨dst, .slice t x lo hi none, ty, pos, after, guard⟩ env σ (Is (.dl sz (((L.take h).drop l).map f)) σ) :=
 g_sliceDl ht hx hlo hhi hl hh (by omega) (by rw [List.length_map]; omega) (by rw [List.map_drop, List.map_take])
theorem vD {α : Type} {f : α → List AV} {t e : TypeId} {sz : Nat} {x lo : Operand} {L : List α} {l : Nat} {li : Int} (ht : tB P t = some (e, sz)) (hx : xP env x = some (.dl sz (L.map f))) (hlo : tA env 0 (some lo) = some li)
  (hl : li = (l : Int)) (hlh : li ≤ (L.length : Int)) : GOp P ro ⟨dst, .slice t x (some lo) none none, ty, pos, after, guard⟩ env σ (Is (.dl sz ((L.drop l).map f)) σ) :=
 g_sliceDl ht hx hlo rfl hl rfl (by rw [List.length_map]; omega) (Nat.le_refl _) (by rw [List.take_length, List.map_drop])
theorem g_sliceHi {α : Type} {f : α → List AV} {t e : TypeId} {sz : Nat} {x hi : Operand} {L : List α} {h : Nat} {hj : Int} (ht : tB P t = some (e, sz)) (hx : xP env x = some (.dl sz (L.map f))) (hhi : tA env (L.map f).length (some hi) = some hj)
  (hh : hj = (h : Int)) (hlh : hj ≤ (L.length : Int)) : GOp P ro ⟨dst, .slice t x none (some hi) none, ty, pos, after, guard⟩ env σ (Is (.dl sz ((L.take h).map f)) σ) :=
 g_sliceDl ht hx rfl hhi rfl hh (Nat.zero_le _) (by rw [List.length_map]; omega) (by rw [List.drop_zero, List.map_take])
theorem xE {e : TypeId} {sz : Nat} {l : List (List AV)} (h : GOp P ro o env σ (Rowed e sz l σ)) : GOp P ro o env σ (Is (.dl sz l) σ) := by
 refine ⟨fun X M a w hg ho K Qx hK => h.run X M a w hg ho K Qx ?_⟩
 rintro M' u w' v σ' hm hgd hv ⟨v⟩
 obtain ⟨M1, h1, h2, h3⟩ := hgd.shut .here
 simp only [VRel] at hv
 obtain ⟨rfl, _⟩ := hv
 exact hK M1 _ w' _ _ (Mem.le_trans hm h1) h2 h3 .mk
theorem nil_rel (M : Mem) (sz : Nat) : VRel M (.dl sz []) nilS := by simp only [VRel]; exact ⟨none, 0, rfl, by simp, by omega, by simp, by simp⟩
theorem scall_nil (sz : Nat) {P : Program} {f : FuncId} {args args' : List AV} {σ : List Ent} {Q : AV → List Ent → Prop} (hc : Cv nilS (.dl sz []) args args') (h : SCall P f args' σ Q) : SCall P f args σ Q :=
 ⟨fun X M w vs hg ha => h.run X M w vs hg (hc.rel (nil_rel M sz) ha)⟩
inductive SealEnv (env : Env) (v : Value) (x : AV) : Env → Prop
 | nil : SealEnv env v x []
 | same {t : Nat} {y : AV} {r : Env} (h : lk env t = some y) (k : SealEnv env v x r) : SealEnv env v x ((t, y) :: r)
 | here {t : Nat} {r : Env} (h : lk env t = some (.slv v)) (k : SealEnv env v x r) : SealEnv env v x ((t, x) :: r)
theorem SealEnv.rel {v : Value} {x : AV} {env' : Env} {M M' : Mem} {tmps : Array Value} (hm : M.le M') (hx : VRel M' x v) (he : EnvRel M env tmps) (h : SealEnv env v x env') : EnvRel M' env' tmps := by
 induction h with
 | nil => intro t y hy; simp [lk] at hy
 | @same t y r h k ih =>
  intro u z hz
  by_cases e : t = u
  ·subst e; rw [vS] at hz; cases hz
   exact he.mono hm t y h
  ·rw [tL e] at hz; exact ih u z hz
 | @here t r h k ih =>
  intro u z hz
  by_cases e : t = u
  ·subst e; rw [vS] at hz; cases hz
   obtain ⟨a, h1, h2⟩ := he t _ h
   simp only [VRel] at h2
   obtain ⟨rfl, _⟩ := h2
   exact ⟨_, h1, hx⟩
  ·rw [tL e] at hz; exact ih u z hz
theorem qR {c : Code} {Q : Exit → St → Prop} {mk : List Nat} {n : Nat} (e : TypeId) (sz : Nat) (h : EX P ro c Q ⟨env, .row nilS e sz [] :: σ, mk, n⟩) : EX P ro c Q ⟨env, σ, mk, n⟩ :=
 ⟨fun X M a w hs => by
  have hg := hs.good
  have hn : Good X M (.row nilS e sz [] :: σ) w := ⟨hg.os, hg.tape, hg.output, hg.mem, hg.frm, hg.dis, fun e' he => by
    rcases List.mem_cons.1 he with rfl | he
    ·exact ⟨[], World.ownsRow_nil w 0 e sz, by simp [VRels], by simp⟩
    ·exact hg.ent e' he,
   fun e' he b hb => by
    rcases List.mem_cons.1 he with rfl | he
    ·cases hb
    ·exact hg.own e' he b hb, hg.nod⟩
  exact h.run X M a w ⟨hn, hs.size, hs.defs, hs.env⟩⟩
end
end Go.Proofs.YtkhoengjdfmfaaaGreat
