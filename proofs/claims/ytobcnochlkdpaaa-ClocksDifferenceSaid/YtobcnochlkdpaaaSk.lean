/- A logic of abstract values: ranges over functions. -/
import Derived.Test.YtobcnochlkdpaaaSj
namespace Go.Proofs.Ytobcnochlkdpaaa
set_option linter.unusedSimpArgs false
set_option linter.unusedVariables false

/-- One round of a range over a function, as the iterator meets it: a call of yield. -/
structure SRound (P : Program) (l : Nat) (args : List AV) (σ : List Ent) (Q : AV → List Ent → Prop) : Prop where
  run : ∀ X M w (vs : Array Value), Good X M σ w → VRels M args vs.toList → ∃ f tmps asg body, (Instr.yield l vs).run P w = .ok (.round l f tmps asg body) w ∧
    RoundIn Fence.wide 0 P l f tmps asg body w fun e w' => ∃ M' σ' r v, M.le M' ∧ Good X M' σ' w' ∧ VRel M' r v ∧ e = .returned v ∧ Q r σ'
theorem SRound.mono {P : Program} {l : Nat} {args : List AV} {σ : List Ent} {Q Q' : AV → List Ent → Prop} (h : SRound P l args σ Q) (hq : ∀ r σ', Q r σ' → Q' r σ') : SRound P l args σ Q' :=
  ⟨fun X M w vs hg ha => by
    obtain ⟨f, tmps, asg, body, h1, h2⟩ := h.run X M w vs hg ha
    exact ⟨f, tmps, asg, body, h1, h2.mono fun _ _ ⟨M', σ', r, v, k1, k2, k3, k4, k5⟩ => ⟨M', σ', r, v, k1, k2, k3, k4, hq _ _ k5⟩⟩⟩

/-- What is owned may be left behind. -/
theorem SRound.sub {P : Program} {l : Nat} {args : List AV} {σ : List Ent} {Q : AV → List Ent → Prop} (h : SRound P l args σ (fun r σ' => ∃ σ2, σ2.Sublist σ' ∧ Q r σ2)) : SRound P l args σ Q :=
  ⟨fun X M w vs hg ha => by
    obtain ⟨f, tmps, asg, body, h1, h2⟩ := h.run X M w vs hg ha
    exact ⟨f, tmps, asg, body, h1, h2.mono fun _ _ ⟨M', σ', r, v, k1, k2, k3, k4, σ2, hs, hq⟩ => ⟨M', σ2, r, v, k1, k2.sub hs, k3, k4, hq⟩⟩⟩
theorem Upd.front {e e' : Ent} {σ σ' : List Ent} (h : Upd σ e e' σ') : ∀ front : List Ent, Upd (front ++ σ) e e' (front ++ σ')
  | [] => h
  | _ :: r => .there (Upd.front h r)

section
variable {P : Program} {ro : Option Nat} {env : Env} {σ σ' : List Ent} {o : Oper} {dst : Option Tmp} {ty : TypeId} {pos : String} {after : Array Edge} {guard : Option (Nat × Bool)}

theorem g_yield {f : Operand} {args : Array Operand} {ats : Array TypeId} {l : Nat} {asl : List AV} {Q : AV → List Ent → Prop} (hf : evA env f = some (.fn (.yield l) [] [])) (hl : evAs env args.toList = some asl) (h : SRound P l asl σ Q) :
    GOp P ro ⟨dst, .call { callee := .value f, args := args, argTypes := ats }, ty, pos, after, guard⟩ env σ Q := by
  refine ⟨fun X M a w hg ho K Qx hK => ?_⟩
  have h1 := ho f (by simp [Op.operands, Call.operands]) _ hf
  simp only [VRel, VRels] at h1
  obtain ⟨vs, ws, hv, k1, k2⟩ := h1
  have e1 : vs = #[] := by apply Array.ext'; simpa using k1
  have e2 : ws = #[] := by apply Array.ext'; simpa using k2
  subst e1 e2
  have k3 := evAs_rel (a := a) (M := M) (fun x hx v hv => ho x (by simp only [Op.operands, Call.operands, Array.mem_append]; exact .inr (by simpa using hx)) v hv) hl
  obtain ⟨fn, tmps, asg, body, hy, hr⟩ := h.run X M w (args.map a.eval) hg (by simpa using k3)
  refine ⟨fun f _ => about_wide f ro, ?_⟩
  rw [Oper.semAt_eq _ _ _ (by intro c h; cases h)]
  have hrun : (execOp a.eval ⟨dst, .call { callee := .value f, args := args, argTypes := ats }, ty, pos, after, guard⟩).run P w = .ok (.round l fn tmps asg body) w := by
    simp only [execOp, resolve, Sem.run_bind, hv, Deferred.ofValue, Sem.run_pure, Result.andThen_ok, invoke]
    simpa using hy
  rw [hrun]
  have hr2 : RoundIn (fence ro) 0 P l fn tmps asg body w _ := hr
  refine ⟨fun hd => (by cases hd), RoundIn.mono hr2 ?_⟩
  rintro e w' ⟨M', σ', r, v, hm, hg', hv', rfl, hq⟩
  exact hK M' v w' r σ' hm hg' hv' hq

/-- The parameters of a round. -/
def putAll : List Tmp → List AV → Env → Env
  | p :: ps, v :: vs, env => putAll ps vs ((p, v) :: env)
  | _, _, env => env

def jumpOf : Exit → Option (Option Code)
  | .normal => some none
  | .ret => some (some .ret)
  | .exit id => some (some (.exit id))
  | .goto l => some (some (.goto l))
  | _ => none

/-- How a round may end: the record says it. -/
def rndA (l : Nat) (fn : FuncId) (env : Env) (n : Nat) (ps : Array Tmp) (asg body : Code) (D : Nat) (Q : AV → List Ent → Prop) : Exit → St → Prop := fun e s =>
  ∃ j σ', jumpOf e = some j ∧ Upd s.σ (.loop l .busy none fn env n ps asg body D) (.loop l (if j.isNone then .ready else .done) j fn env n ps asg body D) σ' ∧ Q (.bool j.isNone) σ'

theorem putAll_rel {M : Mem} : ∀ (ps : List Tmp) (vs : List AV) (us : List Value) (env : Env) (tmps : Array Value), EnvRel M env tmps → VRels M vs us → (∀ p ∈ ps, p < tmps.size) → us.length = ps.length → EnvRel M (putAll ps vs env) ((ps.zip us).foldl (fun t (p : Tmp × Value) => t.setIfInBounds p.1 p.2) tmps)
  | [], vs, us, env, tmps, h, _, _, _ => by simpa [putAll] using h
  | p :: ps, [], us, env, tmps, h, hv, _, hl => by simp only [VRels] at hv; subst hv; simp at hl
  | p :: ps, v :: vs, us, env, tmps, h, hv, hp, hl => by
    simp only [VRels] at hv
    obtain ⟨u, us', rfl, k1, k2⟩ := hv
    simp only [putAll, List.zip_cons_cons, List.foldl_cons]
    refine putAll_rel ps vs us' _ _ ?_ k2 (fun q hq => by simpa using hp q (by simp [hq])) (by simpa using hl)
    intro t x hx
    by_cases e : p = t
    · subst e
      rw [lk_cons_same] at hx
      cases hx
      exact ⟨u, by rw [Array.getElem?_setIfInBounds_self_of_lt (hp p (by simp))], k1⟩
    · rw [lk_cons_ne e] at hx
      obtain ⟨u', h1, h2⟩ := h t x hx
      exact ⟨u', by rw [Array.getElem?_setIfInBounds_ne e]; exact h1, h2⟩

theorem run_setLoop {w : World} {l : Nat} {r : Loop} (o : Obj) (h : w.heap[l]? = some (.loop r)) : (setObj l o).run P w = .ok () (w.putObj l o) := run_setObj_loop o h

theorem upd_loop {X : Fx} {M : Mem} {w : World} {l fn n D : Nat} {st st' : LoopState} {pe pe' : Option Code} {env : Env} {ps : Array Tmp} {asg body : Code} {tmps : Array Value} (hg : Good X M σ w) (hu : Upd σ (.loop l st pe fn env n ps asg body D) (.loop l st' pe' fn env n ps asg body D) σ')
    (h1 : tmps.size = n) (h2 : EnvRel M env tmps) (h3 : w.heap[l]? = some (.loop { state := st, pending := pe, fn := fn, tmps := tmps, params := ps, assign := asg, body := body, defers := D })) :
    Good X M σ' (w.putObj l (.loop { state := st', pending := pe', fn := fn, tmps := tmps, params := ps, assign := asg, body := body, defers := D })) :=
  hg.upd hu rfl rfl rfl (fun k _ hne => World.putObj_heap_other (fun e => hne (by simp [Ent.block, e]))) ⟨tmps, h1, h2, World.putObj_heap_same (Array.getElem?_eq_some_iff.1 h3).1⟩ (.inl rfl)

theorem sround {l fn n D : Nat} {ps : Array Tmp} {asg body : Code} {args : List AV} {Q : AV → List Ent → Prop} (hm : Ent.loop l .ready none fn env n ps asg body D ∈ σ) (hps : ps.size = args.length) (hpn : ∀ p ∈ ps.toList, p < n)
    (h : EX P (some l) asg (thenA (fun s => ∃ σ', Upd s.σ (.loop l .ready none fn env n ps asg body D) (.loop l .busy none fn env n ps asg body D) σ' ∧ EX P (some l) body (rndA l fn env n ps asg body D Q) ⟨s.env, σ', s.marks, s.n⟩) (fun _ _ => False)) ⟨putAll ps.toList args env, σ, [], n⟩) :
    SRound P l args σ Q := by
  refine ⟨fun X M w vs hg ha => ?_⟩
  obtain ⟨tmps, h1, h2, h3⟩ := hg.ent _ hm
  have hl := ha.length
  simp only [Array.length_toList] at hl
  have hy := run_yield (P := P) (args := vs) h3 (by simp only; omega)
  refine ⟨fn, _, asg, body, hy, roundIn_of_wpIn trivial ?_⟩
  have hfold : (ps.zip vs).foldl (fun t (x : Tmp × Value) => t.setIfInBounds x.1 x.2) tmps = (ps.toList.zip vs.toList).foldl (fun t (x : Tmp × Value) => t.setIfInBounds x.1 x.2) tmps := by
    rw [← Array.foldl_toList, Array.toList_zip]
  have hsz : ∀ (z : List (Tmp × Value)) (t : Array Value), (z.foldl (fun t (x : Tmp × Value) => t.setIfInBounds x.1 x.2) t).size = t.size := by
    intro z
    induction z with
    | nil => intro t; rfl
    | cons x z ih => intro t; simp only [List.foldl_cons]; rw [ih]; simp
  have hs : Sim X M ⟨putAll ps.toList args env, σ, [], n⟩ { tmps := (ps.zip vs).foldl (fun t (x : Tmp × Value) => t.setIfInBounds x.1 x.2) tmps, defers := [] } w := by
    refine ⟨hg, ?_, rfl, ?_⟩
    · simp only [hfold, hsz, h1]
    · simp only [hfold]
      exact putAll_rel ps.toList args vs.toList env tmps h2 ha (fun p hp => by rw [h1]; exact hpn p hp) (by simp; omega)
  refine Go.wpIn_mono (h.run X M _ w hs) ?_
  rintro e a1 w1 ⟨M1, s1, hm1, hs1, hq⟩
  cases e with
  | normal =>
    obtain ⟨σb, hub, hbody⟩ := hq
    obtain ⟨tmps1, t1, t2, t3⟩ := hs1.good.ent _ hub.mem
    have hbr := run_beginRound (P := P) t3 rfl
    refine ⟨_, hbr, ?_⟩
    have hgb := upd_loop hs1.good hub t1 t2 t3
    refine Go.wpIn_mono (hbody.run X M1 a1 _ ⟨hgb, hs1.size, hs1.defs, hs1.env⟩) ?_
    rintro e2 a2 w2 ⟨M2, s2, hm2, hs2, j, σ2, hj, hu2, hq2⟩
    obtain ⟨tmps2, r1, r2, r3⟩ := hs2.good.ent _ hu2.mem
    have her := run_endRound (P := P) j r3
    have hg2 := upd_loop hs2.good hu2 r1 r2 r3
    have fin : ∃ v w', (Instr.endRound l j).run P w2 = .ok v w' ∧ ∃ M' σ' r v', M.le M' ∧ Good X M' σ' w' ∧ VRel M' r v' ∧ Ending.returned v = .returned v' ∧ Q r σ' :=
      ⟨_, _, her, M2, σ2, .bool j.isNone, _, Mem.le_trans hm1 hm2, hg2, by simp [VRel], rfl, hq2⟩
    cases e2 with
    | normal => simp only [jumpOf, Option.some.injEq] at hj; subst hj; exact fin
    | ret => simp only [jumpOf, Option.some.injEq] at hj; subst hj; exact fin
    | exit id => simp only [jumpOf, Option.some.injEq] at hj; subst hj; exact fin
    | goto t => simp only [jumpOf, Option.some.injEq] at hj; subst hj; exact fin
    | panic ch => cases hj
    | outgrown => cases hj
  | exit id => exact hq.elim
  | goto l => exact hq.elim
  | ret => exact hq.elim
  | panic ch => exact hq.elim
  | outgrown => exact hq.elim
end

/-- What stands behind the range: the jump that a round has left, or nothing. -/
inductive RangeEnd (P : Program) (ro : Option Nat) (l fn : Nat) (env : Env) (n : Nat) (ps : Array Tmp) (asg body : Code) (D : Nat) (Q : Exit → St → Prop) (mk : List Nat) : AV → List Ent → Prop
  | done {r : AV} {σ σ' : List Ent} (hr : Rem σ (.loop l .ready none fn env n ps asg body D) σ') (h : Q .normal ⟨env, σ', mk, n⟩) : RangeEnd P ro l fn env n ps asg body D Q mk r σ
  | jump {r : AV} {σ σ' : List Ent} {c : Code} (hr : Rem σ (.loop l .done (some c) fn env n ps asg body D) σ') (h : EX P ro c Q ⟨env, σ', mk, n⟩) : RangeEnd P ro l fn env n ps asg body D Q mk r σ

section
variable {P : Program} {Q : Exit → St → Prop} {env : Env} {σ : List Ent} {mk : List Nat} {n : Nat}

theorem range_end {ro : Option Nat} {X : Fx} {M M2 : Mem} {l fn D : Nat} {ps : Array Tmp} {asg body : Code} {σ2 : List Ent} {r : AV} {a : Act} {w2 : World} {ds : List Deferred} {rv : Value} (hm : M.le M2) (hg2 : Good X M2 σ2 w2) (hsz : a.tmps.size = n) (henv : EnvRel M env a.tmps) (hds : ds = marksD mk)
    (hq : RangeEnd P ro l fn env n ps asg body D Q mk r σ2) : rangePost (fence ro) 0 P l (postA X M Q) { a with defers := ds } (.returned rv) w2 := by
  cases hq with
  | done hr h =>
    obtain ⟨x, y, rfl, rfl⟩ := hr.split
    obtain ⟨tmps, t1, t2, t3⟩ := hg2.ent (.loop l .ready none fn env n ps asg body D) (by simp)
    have hel := run_endLoop (P := P) t3 (by simp)
    refine ⟨_, _, hel, M2, _, hm, ⟨hg2.rem hr rfl rfl rfl (fun k hk => World.putObj_heap_other (fun e => hk (by simp [Ent.block, e]))), hsz, hds, henv.mono hm⟩, h⟩
  | @jump _ c hr h =>
    obtain ⟨x, y, rfl, rfl⟩ := hr.split
    obtain ⟨tmps, t1, t2, t3⟩ := hg2.ent (.loop l .done (some c) fn env n ps asg body D) (by simp)
    have hel := run_endLoop (P := P) t3 (by simp)
    refine ⟨_, _, hel, ?_⟩
    exact Go.wpIn_mono (h.run X M2 _ _ ⟨hg2.rem hr rfl rfl rfl (fun k hk => World.putObj_heap_other (fun e => hk (by simp [Ent.block, e]))), hsz, hds, henv.mono hm⟩) fun _ _ _ hp => postA_mono hm (fun _ _ h => h) hp

/-- **The statement**, in a function's own frame. -/
theorem ex_range {g : Operand} {ps : Array Tmp} {asg body : Code} {f : FuncId} {first cap : List AV} (hg : evA env g = some (.fn (.func f) first cap)) (he : Enters P f)
    (h : ∀ D l fn, SCall P f (first ++ [.fn (.yield l) [] []] ++ cap) (.loop l .ready none fn env n ps asg body D :: .obj D (.deferred (some [])) :: σ) (RangeEnd P none l fn env n ps asg body D Q (D :: mk))) :
    EX P none (.rangeFunc g ps asg body) Q ⟨env, σ, mk, n⟩ := by
  refine ⟨fun X M a w hs => wpIn_rangeFunc ?_⟩
  intro fn _
  have hgv := hs.env.eval hg
  simp only [VRel] at hgv
  obtain ⟨vs, ws, hv, k1, k2⟩ := hgv
  have hg1 : Good X M (.obj w.heap.size (.deferred (some [])) :: σ) (w.alloc (.deferred (some []))) := hs.good.alloc _ _ rfl (World.alloc_heap_new w _)
  have hg2 := hg1.alloc (.loop { state := .ready, pending := none, fn := fn, tmps := a.tmps, params := ps, assign := asg, body := body, defers := w.heap.size }) (.loop (w.alloc (.deferred (some []))).heap.size .ready none fn env n ps asg body w.heap.size) rfl ⟨a.tmps, hs.size, hs.env, World.alloc_heap_new _ _⟩
  have hsz1 : (w.alloc (.deferred (some []))).heap.size = w.heap.size + 1 := World.size_alloc ..
  rw [hsz1] at hg2
  obtain ⟨W, hW⟩ : ∃ W, W = (w.alloc (.deferred (some []))).alloc (.loop { state := .ready, pending := none, fn := fn, tmps := a.tmps, params := ps, assign := asg, body := body, defers := w.heap.size }) := ⟨_, rfl⟩
  rw [← hW] at hg2
  refine ⟨w.heap.size + 1, [{ target := .collected w.heap.size, args := #[] }], W, { target := .fn (.func f) ws, args := vs ++ #[.func (.yield (w.heap.size + 1)) #[] #[]] }, W, f, vs ++ #[.func (.yield (w.heap.size + 1)) #[] #[]] ++ ws, W, by rw [hW]; exact run_enterLoop_outer _ _ _ _ _, ?_, fun _ _ => trivial, ?_, fun hd => (by cases hd), ?_⟩
  · simp only [resolve, hv]
    simp [go_sem]
  · simp only [invoke]
    exact he _ _
  · refine callsIn_fence (ro := none) (((h w.heap.size (w.heap.size + 1) fn).run X M _ _ hg2 ?_).mono ?_)
    · have hy : VRels M [AV.fn (.yield (w.heap.size + 1)) [] []] [Value.func (.yield (w.heap.size + 1)) #[] #[]] := by simp [VRels, VRel]
      simpa using (k1.append hy).append k2
    · rintro e w2 ⟨M2, σ2, r, v, hm, hgd, hrel, rfl, hq⟩
      exact range_end (ro := none) hm hgd hs.size hs.env (by rw [hs.defs]; rfl) hq

theorem run_enterLoop_inner {w : World} (fn : FuncId) (tmps : Array Value) (ps : Array Tmp) (asg body : Code) {l : Nat} {r : Loop} (h : w.heap[l]? = some (.loop r)) :
    (Instr.enterLoop fn tmps ps asg body (some l)).run P w = .ok (w.heap.size, []) (w.alloc (.loop { state := .ready, pending := none, fn := fn, tmps := tmps, params := ps, assign := asg, body := body, defers := r.defers })) := by
  simp [Instr.enterLoop, Sem.run_bind, run_getLoop h, newObj, Sem.run]

/-- The same within a round of another one. -/
theorem ex_rangeIn {l0 : Nat} {g : Operand} {ps : Array Tmp} {asg body : Code} {f : FuncId} {first cap : List AV} {st0 : LoopState} {pe0 : Option Code} {fn0 n0 D0 : Nat} {env0 : Env} {ps0 : Array Tmp} {asg0 body0 : Code} (h0 : Ent.loop l0 st0 pe0 fn0 env0 n0 ps0 asg0 body0 D0 ∈ σ) (hg : evA env g = some (.fn (.func f) first cap)) (he : Enters P f)
    (h : ∀ l fn, SCall P f (first ++ [.fn (.yield l) [] []] ++ cap) (.loop l .ready none fn env n ps asg body D0 :: σ) (RangeEnd P (some l0) l fn env n ps asg body D0 Q mk)) :
    EX P (some l0) (.rangeFunc g ps asg body) Q ⟨env, σ, mk, n⟩ := by
  refine ⟨fun X M a w hs => wpIn_rangeFunc ?_⟩
  intro fn _
  have hgv := hs.env.eval hg
  simp only [VRel] at hgv
  obtain ⟨vs, ws, hv, k1, k2⟩ := hgv
  obtain ⟨tmps0, _, _, h3⟩ := hs.good.ent _ h0
  have hg2 := hs.good.alloc (.loop { state := .ready, pending := none, fn := fn, tmps := a.tmps, params := ps, assign := asg, body := body, defers := D0 }) (.loop w.heap.size .ready none fn env n ps asg body D0) rfl ⟨a.tmps, hs.size, hs.env, World.alloc_heap_new _ _⟩
  obtain ⟨W, hW⟩ : ∃ W, W = w.alloc (.loop { state := .ready, pending := none, fn := fn, tmps := a.tmps, params := ps, assign := asg, body := body, defers := D0 }) := ⟨_, rfl⟩
  rw [← hW] at hg2
  refine ⟨w.heap.size, [], W, { target := .fn (.func f) ws, args := vs ++ #[.func (.yield w.heap.size) #[] #[]] }, W, f, vs ++ #[.func (.yield w.heap.size) #[] #[]] ++ ws, W, by rw [hW]; exact run_enterLoop_inner (P := P) _ _ _ _ _ h3, ?_, fun _ _ => trivial, ?_, fun hd => (by cases hd), ?_⟩
  · simp only [resolve, hv]
    simp [go_sem]
  · simp only [invoke]
    exact he _ _
  · refine callsIn_fence (ro := some l0) (((h w.heap.size fn).run X M _ _ hg2 ?_).mono ?_)
    · have hy : VRels M [AV.fn (.yield w.heap.size) [] []] [Value.func (.yield w.heap.size) #[] #[]] := by simp [VRels, VRel]
      simpa using (k1.append hy).append k2
    · rintro e w2 ⟨M2, σ2, r, v, hm, hgd, hrel, rfl, hq⟩
      exact range_end (ro := some l0) hm hgd hs.size hs.env (by simpa using hs.defs) hq
end

section
variable {P : Program} {ro : Option Nat} {Q : Exit → St → Prop} {ops : Array Oper} {rest : List Oper} {o : Oper} {env : Env} {σ : List Ent} {mk : List Nat} {n : Nat}
theorem exl_callW {R : AV → List Ent → Prop} {b want : Bool} {d : Nat} (hgd : guardA ops o env = some (.bool b, want)) (hb : b = want) (hd : o.dst = some d) (hn : Nat.blt d n = true) (hg : GOp P ro o env σ R) (h : ∀ v σ', R v σ' → EXL P ro ops rest Q ⟨(d, v) :: env, σ', mk, n⟩) : EXL P ro ops (o :: rest) Q ⟨env, σ, mk, n⟩ :=
  exl_want (s := ⟨env, σ, mk, n⟩) hgd hb (dst_ok hd hn) hg (by intro v σ' hr; rw [hd]; exact h v σ' hr)
theorem exl_call0 {R : AV → List Ent → Prop} (hgd : o.guard = none) (hd : o.dst = none) (hg : GOp P ro o env σ R) (h : ∀ v σ', R v σ' → EXL P ro ops rest Q ⟨env, σ', mk, n⟩) : EXL P ro ops (o :: rest) Q ⟨env, σ, mk, n⟩ :=
  exl_plain (s := ⟨env, σ, mk, n⟩) hgd (by rw [hd]; rfl) hg (by intro v σ' hr; rw [hd]; exact h v σ' hr)

/-- Anything comes back. -/
theorem ret_q {fn : Func} {vs : List AV} {σ1 σ2 σ3 : List Ent} {R : AV → List Ent → Prop} (hm : Marks mk σ1 σ2) (hr : Res P env σ2 fn.results.toList vs) (hs : σ3.Sublist σ2) (h : Fin σ3 (oneA vs) R) : RetOK P fn R ⟨env, σ1, mk, n⟩ :=
  ⟨vs, σ2, hm, hr, fin_drop hs h⟩
end

/-- A map comes back that is the caller's. -/
inductive MapR (f : Int → Option AV) (σ : List Ent) : AV → List Ent → Prop
  | mk (b n : Nat) : MapR f σ (.mp b) (.imap b f n :: σ)

/-- A function that yields: values one by one, till it is told to stop. -/
def Yields (P : Program) (f : FuncId) (first cap : List AV) (xs : List (List AV)) (C : List Ent → Prop) : Prop :=
  ∀ (l : Nat) (σ : List Ent) (I : Nat → List Ent → Prop) (Stop : List Ent → Prop), (∀ k σ, I k σ → C σ) →
    (∀ k x σ, xs[k]? = some x → I k σ → SRound P l x σ fun r σ' => (r = .bool true ∧ I (k + 1) σ') ∨ (r = .bool false ∧ Stop σ')) → I 0 σ →
    SCall P f (first ++ [.fn (.yield l) [] []] ++ cap) σ fun _ σ' => I xs.length σ' ∨ Stop σ'
end Go.Proofs.Ytobcnochlkdpaaa
