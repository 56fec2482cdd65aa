/- A logic of abstract values, second part: states, code, calls. -/
import Derived.Test.YtobcnochlkdpaaaSa
import Derived.Deep.LoopGhost
namespace Go.Proofs.Ytobcnochlkdpaaa
set_option linter.unusedSimpArgs false
set_option linter.unusedVariables false

/-- A goal that a walk leaves alone. -/
structure Stuck (p : Prop) : Prop where
  out : p

/-- A constant's abstract value. -/
def cA : Value → AV
  | .int k n => .int k n
  | .bool b => .bool b
  | .string s => .str s
  | .slice a l c => .slv (.slice a l c)
  | v => .raw v
theorem cA_rel (M : Mem) (v : Value) : VRel M (cA v) v := by cases v <;> simp [cA, VRel, Value.isSl]

def evA (env : Env) : Operand → Option AV
  | .tmp t => lk env t
  | .const v => some (cA v)
  | .func f => some (.fn (.func f) [] [])
  | .global g => some (.ptr g 0)

structure St where
  env : Env
  σ : List Ent
  marks : List Nat
  n : Nat

def marksD (l : List Nat) : List Deferred := l.map fun D => { target := .collected D, args := #[] }

structure Sim (X : Fx) (M : Mem) (s : St) (a : Act) (w : World) : Prop where
  good : Good X M s.σ w
  size : a.tmps.size = s.n
  defs : a.defers = marksD s.marks
  env : EnvRel M s.env a.tmps

theorem EnvRel.eval {M : Mem} {env : Env} {a : Act} (he : EnvRel M env a.tmps) {x : Operand} {v : AV} (h : evA env x = some v) : VRel M v (a.eval x) := by
  cases x with
  | tmp t =>
    obtain ⟨u, h1, h2⟩ := he t v h
    simpa [Act.eval, Array.getD_eq_getD_getElem?, h1] using h2
  | const c => simp only [evA, Option.some.injEq] at h; subst h; exact cA_rel M c
  | func f => simp only [evA, Option.some.injEq] at h; subst h; simp [Act.eval, VRel, VRels]
  | global g => simp only [evA, Option.some.injEq] at h; subst h; simp [Act.eval, VRel]

def put (dst : Option Tmp) (v : AV) (env : Env) : Env := match dst with | some d => (d, v) :: env | none => env
def dstOk (dst : Option Tmp) (n : Nat) : Bool := match dst with | some d => decide (d < n) | none => true

theorem EnvRel.put {M : Mem} {env : Env} {a : Act} {dst : Option Tmp} {n : Nat} {v : AV} {u : Value} (he : EnvRel M env a.tmps) (hn : a.tmps.size = n) (hd : dstOk dst n = true) (hv : VRel M v u) :
    EnvRel M (put dst v env) (a.put dst u).tmps := by
  cases dst with
  | none => exact he
  | some d =>
    intro t x hx
    have hd' : d < a.tmps.size := by rw [hn]; simpa [dstOk] using hd
    simp only [Go.Act.put, Go.Proofs.Ytobcnochlkdpaaa.put] at *
    by_cases e : d = t
    · subst e
      rw [lk_cons_same] at hx
      cases hx
      exact ⟨u, by rw [Array.getElem?_setIfInBounds_self_of_lt hd'], hv⟩
    · rw [lk_cons_ne e] at hx
      obtain ⟨u', h1, h2⟩ := he t x hx
      exact ⟨u', by rw [Array.getElem?_setIfInBounds_ne e]; exact h1, h2⟩

theorem Sim.put {X : Fx} {M M' : Mem} {s : St} {a : Act} {w w' : World} (h : Sim X M s a w) (hm : M.le M') {σ' : List Ent} (hg : Good X M' σ' w') {dst : Option Tmp} (hd : dstOk dst s.n = true) {v : AV} {u : Value} (hv : VRel M' v u) :
    Sim X M' { s with env := Go.Proofs.Ytobcnochlkdpaaa.put dst v s.env, σ := σ' } (a.put dst u) w' := by
  refine ⟨hg, ?_, ?_, (h.env.mono hm).put h.size hd hv⟩
  · cases dst <;> simp [Go.Act.put, h.size]
  · cases dst <;> simp [Go.Act.put, h.defs]

/-- s says at least what s' says. -/
structure St.le (s s' : St) : Prop where
  env : ∀ t v, lk s'.env t = some v → lk s.env t = some v
  σ : s'.σ.Sublist s.σ
  marks : s'.marks = s.marks
  n : s'.n = s.n
theorem St.le_refl (s : St) : s.le s := ⟨fun _ _ h => h, List.Sublist.refl _, rfl, rfl⟩
theorem Sim.weaken {X : Fx} {M : Mem} {s s' : St} {a : Act} {w : World} (h : Sim X M s a w) (hl : s.le s') : Sim X M s' a w :=
  ⟨h.good.sub hl.σ, h.size.trans hl.n.symm, by rw [h.defs, hl.marks], fun t v hv => h.env t v (hl.env t v hv)⟩

/-- Env inclusion, entry by entry. -/
def EnvSub : Env → Env → Prop
  | [], _ => True
  | (t, v) :: r, e => lk e t = some v ∧ EnvSub r e
theorem EnvSub.spec : ∀ {e' e : Env}, EnvSub e' e → ∀ t v, lk e' t = some v → lk e t = some v
  | [], _, _, t, v, h => by simp [lk] at h
  | (t', v') :: r, e, ⟨h1, h2⟩, t, v, h => by
    by_cases hb : t' = t
    · subst hb; rw [lk_cons_same] at h; cases h; exact h1
    · rw [lk_cons_ne hb] at h; exact EnvSub.spec h2 t v h
theorem St.le_of {env env' : Env} {σ σ' : List Ent} {m : List Nat} {n : Nat} (h : EnvSub env' env) (hs : σ'.Sublist σ) : St.le ⟨env, σ, m, n⟩ ⟨env', σ', m, n⟩ := ⟨h.spec, hs, rfl, rfl⟩

/-! ### Code -/
def fence (ro : Option Nat) : Fence := { Fence.wide with round := ro }

def postA (X : Fx) (M : Mem) (Q : Exit → St → Prop) : Exit → Act → World → Prop := fun e a w => ∃ M' s, M.le M' ∧ Sim X M' s a w ∧ Q e s

theorem postA_mono {X : Fx} {M M' : Mem} (hm : M.le M') {Q Q' : Exit → St → Prop} (hq : ∀ e s, Q e s → Q' e s) {e : Exit} {a : Act} {w : World} (h : postA X M' Q e a w) : postA X M Q' e a w :=
  let ⟨M2, s, h1, h2, h3⟩ := h; ⟨M2, s, Mem.le_trans hm h1, h2, hq e s h3⟩

structure EX (P : Program) (ro : Option Nat) (c : Code) (Q : Exit → St → Prop) (s : St) : Prop where
  run : ∀ X M a w, Sim X M s a w → c.wpIn (fence ro) 0 P (postA X M Q) a w

section
variable {P : Program} {ro : Option Nat} {Q Q' : Exit → St → Prop} {s s' : St} {x y c : Code}

theorem ex_mono (h : EX P ro c Q s) (hq : ∀ e s, Q e s → Q' e s) : EX P ro c Q' s :=
  ⟨fun X M a w hs => Go.wpIn_mono (h.run X M a w hs) fun _ _ _ hp => postA_mono (Mem.le_refl M) hq hp⟩

theorem ex_weaken (hl : s.le s') (h : EX P ro c Q s') : EX P ro c Q s := ⟨fun X M a w hs => h.run X M a w (hs.weaken hl)⟩

theorem ex_skip (h : Q .normal s) : EX P ro .skip Q s := ⟨fun _ M _ _ hs => wpIn_skip ⟨M, s, Mem.le_refl M, hs, h⟩⟩
theorem ex_label {l : Nat} (h : Q .normal s) : EX P ro (.label l) Q s := ⟨fun _ M _ _ hs => wpIn_label ⟨M, s, Mem.le_refl M, hs, h⟩⟩
theorem ex_exit {id : Nat} (h : Q (.exit id) s) : EX P ro (.exit id) Q s := ⟨fun _ M _ _ hs => wpIn_exit ⟨M, s, Mem.le_refl M, hs, h⟩⟩
theorem ex_ret (h : Q .ret s) : EX P ro .ret Q s := ⟨fun _ M _ _ hs => wpIn_ret ⟨M, s, Mem.le_refl M, hs, h⟩⟩

/-- What follows in a sequence. -/
def thenA (next : St → Prop) (Q : Exit → St → Prop) : Exit → St → Prop
  | .normal, s => next s
  | e, s => Q e s
theorem ex_seq (h : EX P ro x (thenA (EX P ro y Q) Q) s) : EX P ro (.seq x y) Q s := by
  refine ⟨fun X M a w hs => ?_⟩
  refine wpIn_seq (Go.wpIn_mono (h.run X M a w hs) ?_)
  rintro e a' w' ⟨M', s', hm, hs', hq⟩
  cases e with
  | normal => exact Go.wpIn_mono (hq.run X M' a' w' hs') fun _ _ _ hp => postA_mono hm (fun _ _ h => h) hp
  | exit id => exact ⟨M', s', hm, hs', hq⟩
  | goto l => exact ⟨M', s', hm, hs', hq⟩
  | ret => exact ⟨M', s', hm, hs', hq⟩
  | panic ch => exact ⟨M', s', hm, hs', hq⟩
  | outgrown => exact ⟨M', s', hm, hs', hq⟩

theorem ex_cond {o : Operand} {b : Bool} (hc : evA s.env o = some (.bool b)) (ht : b = true → EX P ro x Q s) (hf : b = false → EX P ro y Q s) : EX P ro (.cond o x y) Q s := by
  refine ⟨fun X M a w hs => ?_⟩
  have hv : a.eval o = .bool b := by simpa [VRel] using hs.env.eval hc
  exact wpIn_cond_split hv (fun h => (ht h).run X M a w hs) (fun h => (hf h).run X M a w hs)
theorem ex_cond_t {o : Operand} {b : Bool} (hc : evA s.env o = some (.bool b)) (hb : b = true) (h : EX P ro x Q s) : EX P ro (.cond o x y) Q s := ex_cond hc (fun _ => h) (fun e => by rw [hb] at e; cases e)
theorem ex_cond_f {o : Operand} {b : Bool} (hc : evA s.env o = some (.bool b)) (hb : b = false) (h : EX P ro y Q s) : EX P ro (.cond o x y) Q s := ex_cond hc (fun e => by rw [hb] at e; cases e) (fun _ => h)

def blockA (id : Nat) (Q : Exit → St → Prop) : Exit → St → Prop
  | .exit id', s => if id' = id then Q .normal s else Q (.exit id') s
  | e, s => Q e s
theorem ex_block {id : Nat} (h : EX P ro c (blockA id Q) s) : EX P ro (.block id c) Q s := by
  refine ⟨fun X M a w hs => ?_⟩
  refine wpIn_block (Go.wpIn_mono (h.run X M a w hs) ?_)
  rintro e a' w' ⟨M', s', hm, hs', hq⟩
  cases e with
  | exit id' =>
    simp only [blockA] at hq
    simp only [Exit.inBlock]
    split <;> rename_i hi
    · rw [if_pos hi] at hq; exact ⟨M', s', hm, hs', hq⟩
    · rw [if_neg hi] at hq; exact ⟨M', s', hm, hs', hq⟩
  | normal => exact ⟨M', s', hm, hs', hq⟩
  | goto l => exact ⟨M', s', hm, hs', hq⟩
  | ret => exact ⟨M', s', hm, hs', hq⟩
  | panic ch => exact ⟨M', s', hm, hs', hq⟩
  | outgrown => exact ⟨M', s', hm, hs', hq⟩

/-- A round hands on a state that says what the invariant's says, at a lesser measure. -/
def roundA {α : Type} (f : α → St) (Inv : α → Prop) (μ : α → Nat) (n : Nat) (Q : Exit → St → Prop) : Exit → St → Prop
  | .normal, s => ∃ x, Inv x ∧ μ x < n ∧ s.le (f x)
  | e, s => Q e s
theorem ex_loop {α : Type} (f : α → St) (Inv : α → Prop) (μ : α → Nat) (x0 : α) (h0 : Inv x0) (hs0 : s.le (f x0)) (hr : ∀ x, Inv x → EX P ro c (roundA f Inv μ (μ x) Q) (f x)) : EX P ro (.loop c) Q s := by
  refine ⟨fun X M a w hs => ?_⟩
  refine wpIn_loop (fun a w => ∃ n, ∃ x M', μ x = n ∧ M.le M' ∧ Inv x ∧ Sim X M' (f x) a w) (fun a w => leastOf (fun n => ∃ x M', μ x = n ∧ M.le M' ∧ Inv x ∧ Sim X M' (f x) a w))
    ⟨_, x0, M, rfl, Mem.le_refl M, h0, hs.weaken hs0⟩ ?_
  intro a w hI
  obtain ⟨x, M', hn, hm, hi, hsx⟩ := (leastOf_spec hI).1
  refine Go.wpIn_mono ((hr x hi).run X M' a w hsx) ?_
  rintro e a' w' ⟨M2, s2, hm2, hs2, hq⟩
  cases e with
  | normal =>
    obtain ⟨x', hi', hlt, hle⟩ := hq
    have hp : ∃ x M', μ x = μ x' ∧ M.le M' ∧ Inv x ∧ Sim X M' (f x) a' w' := ⟨x', M2, rfl, Mem.le_trans hm hm2, hi', hs2.weaken hle⟩
    exact ⟨⟨_, hp⟩, Nat.lt_of_le_of_lt ((leastOf_spec ⟨_, hp⟩).2 _ hp) (hn ▸ hlt)⟩
  | exit id => exact ⟨M2, s2, Mem.le_trans hm hm2, hs2, hq⟩
  | goto l => exact ⟨M2, s2, Mem.le_trans hm hm2, hs2, hq⟩
  | ret => exact ⟨M2, s2, Mem.le_trans hm hm2, hs2, hq⟩
  | panic ch => exact ⟨M2, s2, Mem.le_trans hm hm2, hs2, hq⟩
  | outgrown => exact ⟨M2, s2, Mem.le_trans hm hm2, hs2, hq⟩

def noGotoA (Q : Exit → St → Prop) : Exit → St → Prop
  | .goto _, _ => False
  | e, s => Q e s
theorem stepR_scope {P : Program} {b : Frame} {a : Act} {k : List Item} {cs : List Frame} {w : World} {c : Code} : step P (lone (b.atR a (.code (.scope c) :: k)) cs w) = .next (lone (b.atR a (.code c :: .inScope c :: k)) cs w) :=
  step_lone_go (by simp [stepG, stepG.exec, Frame.atR])
theorem stepR_inScope {P : Program} {b : Frame} {a : Act} {k : List Item} {cs : List Frame} {w : World} {c : Code} : step P (lone (b.atR a (.inScope c :: k)) cs w) = .next (lone (b.atR a k) cs w) :=
  step_lone_go (by simp [stepG, stepG.exec, Frame.atR])
theorem wpIn_scope {F : Fence} {n : Nat} {P : Program} {Q : Exit → Act → World → Prop} {a : Act} {w : World} {c : Code} (h : c.wpIn F n P (fun e a w => match e with | .goto _ => False | e => Q e a w) a w) : (Code.scope c).wpIn F n P Q a w := by
  intro b k cs hro hb hr
  obtain ⟨e, a₁, w₁, hq, harr⟩ := h b (.inScope c :: k) cs hro hb hr
  have h0 : (lone (b.atR a (.code (.scope c) :: k)) cs w).fenced P F := fenced_calm hb hr rfl
  cases e with
  | normal => exact ⟨.normal, a₁, w₁, hq, .head h0 stepR_scope (StepsIn.trans harr (.one (fenced_calm (fr := b.atR a₁ (.inScope c :: k)) hb hr rfl) stepR_inScope))⟩
  | exit id =>
    have hx : exitTo id (.inScope c :: k) = exitTo id k := by simp [exitTo]
    exact ⟨.exit id, a₁, w₁, hq, fun k' hk => .head h0 stepR_scope (harr.1 k' (by rw [hx]; exact hk)), fun hr' hk => let ⟨k₁, h1, h2⟩ := harr.2 hr' (by rw [hx]; exact hk); ⟨k₁, h1, .head h0 stepR_scope h2⟩⟩
  | goto l => exact hq.elim
  | ret => exact ⟨_, a₁, w₁, hq, .of_steps (.one h0 stepR_scope) harr⟩
  | panic ch => exact ⟨_, a₁, w₁, hq, .of_steps (.one h0 stepR_scope) harr⟩
  | outgrown => exact ⟨_, a₁, w₁, hq, .of_steps (.one h0 stepR_scope) harr⟩
theorem ex_scope (h : EX P ro c (noGotoA Q) s) : EX P ro (.scope c) Q s := by
  refine ⟨fun X M a w hs => ?_⟩
  refine wpIn_scope (Go.wpIn_mono (h.run X M a w hs) ?_)
  rintro e a' w' ⟨M', s', hm, hs', hq⟩
  cases e with
  | goto l => exact hq.elim
  | normal => exact ⟨M', s', hm, hs', hq⟩
  | exit id => exact ⟨M', s', hm, hs', hq⟩
  | ret => exact ⟨M', s', hm, hs', hq⟩
  | panic ch => exact ⟨M', s', hm, hs', hq⟩
  | outgrown => exact ⟨M', s', hm, hs', hq⟩
end

/-! ### Operations -/
def OpRel (M : Mem) (env : Env) (a : Act) (o : Oper) : Prop := ∀ x ∈ o.op.operands, ∀ v, evA env x = some v → VRel M v (a.eval x)
theorem EnvRel.op {M : Mem} {env : Env} {a : Act} (he : EnvRel M env a.tmps) (o : Oper) : OpRel M env a o := fun _ _ _ hv => he.eval hv

/-- Whatever memory: the operation goes through, and hands back a value, and a list of what is owned, as R says. -/
structure GOp (P : Program) (ro : Option Nat) (o : Oper) (env : Env) (σ : List Ent) (R : AV → List Ent → Prop) : Prop where
  run : ∀ X M a w, Good X M σ w → OpRel M env a o → ∀ (K : Act → World → Prop) (Qx : Exit → Act → World → Prop),
    (∀ M' u w' v σ', M.le M' → Good X M' σ' w' → VRel M' v u → R v σ' → K (a.put o.dst u) w') → o.wpIn (fence ro) 0 P a w K Qx

structure EXL (P : Program) (ro : Option Nat) (ops : Array Oper) (l : List Oper) (Q : Exit → St → Prop) (s : St) : Prop where
  run : ∀ X M a w, Sim X M s a w → wpListIn (fence ro) 0 P ops (postA X M Q) l a w

section
variable {P : Program} {ro : Option Nat} {Q : Exit → St → Prop} {s : St} {ops : Array Oper} {rest l : List Oper} {o : Oper}

theorem ex_region {id : Nat} (h : EXL P ro l.toArray l Q s) : EX P ro (.region id l.toArray false) Q s := ⟨fun X M a w hs => wpIn_region_lit (h.run X M a w hs)⟩
theorem exl_nil (h : Q .normal s) : EXL P ro ops [] Q s := ⟨fun _ M _ _ hs => ⟨M, s, Mem.le_refl M, hs, h⟩⟩

theorem wpListIn_mono {F : Fence} {n : Nat} {Q1 Q2 : Exit → Act → World → Prop} (hq : ∀ e a w, Q1 e a w → Q2 e a w) : ∀ (l : List Oper) (a : Act) (w : World), wpListIn F n P ops Q1 l a w → wpListIn F n P ops Q2 l a w
  | [], a, w, h => hq _ _ _ h
  | o :: l, a, w, h => by
    unfold wpListIn at h ⊢
    split
    · rename_i hw
      rw [if_pos hw] at h
      unfold Oper.wpIn at h ⊢
      refine ⟨h.1, ?_⟩
      have h2 := h.2
      generalize (o.semAt F.round a.eval).run P w = r at h2
      cases r with
      | ok nx w' =>
        cases nx <;> simp only [Oper.uponIn] at h2 ⊢ <;> first
          | exact wpListIn_mono hq l _ _ h2
          | exact ⟨h2.1, CallsIn.mono h2.2 (fun e w' he => by cases e <;> first | exact wpListIn_mono hq l _ _ he | exact hq _ _ _ he | exact let ⟨a, w, h⟩ := he; ⟨a, w, hq _ _ _ h⟩)⟩
          | exact ⟨h2.1, RowsIn.mono h2.2 (fun _ _ he => wpListIn_mono hq l _ _ he)⟩
          | exact ⟨h2.1, RoundIn.mono h2.2 (fun e w' he => by cases e <;> first | exact wpListIn_mono hq l _ _ he | exact hq _ _ _ he | exact let ⟨a, w, h⟩ := he; ⟨a, w, hq _ _ _ h⟩)⟩
      | halt x w' => cases x <;> simp only [Oper.uponIn] at h2 ⊢ <;> first | exact hq _ _ _ h2
    · rename_i hw
      rw [if_neg hw] at h
      exact ⟨h.1, wpListIn_mono hq l _ _ h.2⟩

theorem about_wide (f : FuncId) (ro : Option Nat) : (fence ro).fn f := trivial

/-- One operation, wanted. -/
theorem exl_core {R : AV → List Ent → Prop} (hw : ∀ a : Act, a.tmps.size = s.n → (∀ M, EnvRel M s.env a.tmps → Region.wanted o (yielded ops a.tmps) = true)) (hd : dstOk o.dst s.n = true) (hg : GOp P ro o s.env s.σ R)
    (h : ∀ v σ', R v σ' → EXL P ro ops rest Q { s with env := put o.dst v s.env, σ := σ' }) : EXL P ro ops (o :: rest) Q s := by
  refine ⟨fun X M a w hs => ?_⟩
  unfold wpListIn
  rw [if_pos (hw a hs.size M hs.env)]
  refine hg.run X M a w hs.good (hs.env.op o) _ _ ?_
  intro M' u w' v σ' hm hgd hv hR
  exact wpListIn_mono (fun _ _ _ hp => postA_mono hm (fun _ _ h => h) hp) _ _ _ ((h v σ' hR).run X M' _ w' (hs.put hm hgd hd hv))

theorem exl_plain {R : AV → List Ent → Prop} (hgd : o.guard = none) (hd : dstOk o.dst s.n = true) (hg : GOp P ro o s.env s.σ R)
    (h : ∀ v σ', R v σ' → EXL P ro ops rest Q { s with env := put o.dst v s.env, σ := σ' }) : EXL P ro ops (o :: rest) Q s :=
  exl_core (fun a _ _ _ => by simp [Region.wanted, hgd]) hd hg h

/-- The slot that a guard asks. -/
def guardA (ops : Array Oper) (o : Oper) (env : Env) : Option (AV × Bool) := match o.guard with
  | some (j, want) => (((ops[j]?).bind (·.dst)).bind (lk env)).map (·, want)
  | none => none
theorem guardA_spec {env : Env} {b want : Bool} {v : AV} (h : guardA ops o env = some (v, want)) : ∃ j d, o.guard = some (j, want) ∧ (ops[j]?).bind (·.dst) = some d ∧ lk env d = some v := by
  unfold guardA at h
  cases hg : o.guard with
  | none => rw [hg] at h; cases h
  | some g =>
    obtain ⟨j, wt⟩ := g
    rw [hg] at h
    simp only [Option.map_eq_some_iff, Prod.mk.injEq] at h
    obtain ⟨x, hx, rfl, rfl⟩ := h
    obtain ⟨d, h1, h2⟩ := Option.bind_eq_some_iff.1 hx
    exact ⟨j, d, rfl, h1, h2⟩
theorem wanted_of {M : Mem} {env : Env} {a : Act} (he : EnvRel M env a.tmps) {b want : Bool} (h : guardA ops o env = some (.bool b, want)) : Region.wanted o (yielded ops a.tmps) = (b == want) := by
  obtain ⟨j, d, hg, hd, hl⟩ := guardA_spec (b := b) h
  obtain ⟨u, h1, h2⟩ := he d _ hl
  simp only [VRel] at h2
  subst h2
  simp [Region.wanted, hg, yielded, hd, h1]
theorem wanted_raw {M : Mem} {env : Env} {a : Act} (he : EnvRel M env a.tmps) {want : Bool} (h : guardA ops o env = some (.raw undef, want)) : Region.wanted o (yielded ops a.tmps) = false := by
  obtain ⟨j, d, hg, hd, hl⟩ := guardA_spec (b := want) h
  obtain ⟨u, h1, h2⟩ := he d _ hl
  simp only [VRel] at h2
  subst h2
  simp [Region.wanted, hg, yielded, hd, h1, undef]

theorem exl_want {R : AV → List Ent → Prop} {b want : Bool} (hgd : guardA ops o s.env = some (.bool b, want)) (hb : b = want) (hd : dstOk o.dst s.n = true) (hg : GOp P ro o s.env s.σ R)
    (h : ∀ v σ', R v σ' → EXL P ro ops rest Q { s with env := put o.dst v s.env, σ := σ' }) : EXL P ro ops (o :: rest) Q s :=
  exl_core (fun a _ M he => by rw [wanted_of he hgd, hb]; simp) hd hg h

theorem exl_off (hw : ∀ (a : Act) (M : Mem), EnvRel M s.env a.tmps → Region.wanted o (yielded ops a.tmps) = false) (hd : dstOk o.dst s.n = true)
    (h : EXL P ro ops rest Q { s with env := put o.dst (.raw undef) s.env }) : EXL P ro ops (o :: rest) Q s := by
  refine ⟨fun X M a w hs => ?_⟩
  unfold wpListIn
  rw [if_neg (by rw [hw a M hs.env]; simp)]
  exact ⟨fun f _ => about_wide f ro, h.run X M _ w (hs.put (Mem.le_refl M) hs.good hd (by simp [VRel]))⟩
theorem exl_skip {b want : Bool} (hgd : guardA ops o s.env = some (.bool b, want)) (hb : b = !want) (hd : dstOk o.dst s.n = true)
    (h : EXL P ro ops rest Q { s with env := put o.dst (.raw undef) s.env }) : EXL P ro ops (o :: rest) Q s :=
  exl_off (fun a M he => by rw [wanted_of he hgd, hb]; cases want <;> rfl) hd h
theorem exl_skip_raw {want : Bool} (hgd : guardA ops o s.env = some (.raw undef, want)) (hd : dstOk o.dst s.n = true)
    (h : EXL P ro ops rest Q { s with env := put o.dst (.raw undef) s.env }) : EXL P ro ops (o :: rest) Q s :=
  exl_off (fun a M he => wanted_raw he hgd) hd h
/-- A guard that is not known: both. -/
theorem exl_case {b want : Bool} (_ : guardA ops o s.env = some (.bool b, want)) (ht : b = true → EXL P ro ops (o :: rest) Q s) (hf : b = false → EXL P ro ops (o :: rest) Q s) : EXL P ro ops (o :: rest) Q s := by
  cases b
  · exact hf rfl
  · exact ht rfl
end
end Go.Proofs.Ytobcnochlkdpaaa
