/- A logic of abstract values, seventh part: calls, functions, what they hand back. -/
import Derived.Test.YtobcnochlkdpaaaSf
import Derived.RangeFuncCalls
import Derived.Shelf.Abstract
namespace Go.Proofs.Ytobcnochlkdpaaa
set_option linter.unusedSimpArgs false
set_option linter.unusedVariables false

section
variable {P : Program} {ro : Option Nat} {env : Env} {σ σ' : List Ent} {o : Oper} {dst : Option Tmp} {ty : TypeId} {pos : String} {after : Array Edge} {guard : Option (Nat × Bool)}

theorem callsIn_fence {f : FuncId} {args : Array Value} {w : World} {R : Ending → World → Prop} (h : Calls P f args w R) : CallsIn (fence ro) 0 P f args w R := by
  have h1 := callsIn_wide (n := 0).2 h
  exact h1

theorem g_call {f : Operand} {args : Array Operand} {ats : Array TypeId} {g : FuncId} {first cap l : List AV} {Q : AV → List Ent → Prop} (hf : evA env f = some (.fn (.func g) first cap)) (hl : evAs env args.toList = some l) (he : Enters P g) (h : SCall P g (first ++ l ++ cap) σ Q) :
    GOp P ro ⟨dst, .call { callee := .value f, args := args, argTypes := ats }, ty, pos, after, guard⟩ env σ Q := by
  refine ⟨fun X M a w hg ho K Qx hK => ?_⟩
  have h1 := ho f (by simp [Op.operands, Call.operands]) _ hf
  simp only [VRel] at h1
  obtain ⟨vs, ws, hv, k1, k2⟩ := h1
  have k3 := evAs_rel (a := a) (M := M) (fun x hx v hv => ho x (by simp only [Op.operands, Call.operands, Array.mem_append]; exact .inr (by simpa using hx)) v hv) hl
  refine ⟨fun f _ => about_wide f ro, ?_⟩
  rw [Oper.semAt_eq _ _ _ (by intro c h; cases h)]
  have hrun : (execOp a.eval ⟨dst, .call { callee := .value f, args := args, argTypes := ats }, ty, pos, after, guard⟩).run P w = .ok (.enter g (vs ++ args.map a.eval ++ ws)) w := by
    simp only [execOp, resolve, Sem.run_bind, hv, Deferred.ofValue, Sem.run_pure, Result.andThen_ok, invoke]
    exact he _ _
  rw [hrun]
  refine ⟨fun hd => (by cases hd), callsIn_fence ((h.run X M w _ hg (by simpa using (k1.append k3).append k2)).mono ?_)⟩
  rintro e w' ⟨M', σ', r, v, hm, hg', hv', rfl, hq⟩
  exact hK M' v w' r σ' hm hg' hv' hq

/-! ### Results -/
inductive Rem : List Ent → Ent → List Ent → Prop
  | here {e : Ent} {σ : List Ent} : Rem (e :: σ) e σ
  | there {e x : Ent} {σ σ' : List Ent} : Rem σ e σ' → Rem (x :: σ) e (x :: σ')
theorem Rem.split {e : Ent} (h : Rem σ e σ') : ∃ a c, σ = a ++ e :: c ∧ σ' = a ++ c := by
  induction h with
  | @here e σ => exact ⟨[], σ, rfl, rfl⟩
  | @there e x σ σ' _ ih => obtain ⟨a, c, h1, h2⟩ := ih; exact ⟨x :: a, c, by rw [h1]; rfl, by rw [h2]; rfl⟩
theorem Rem.sub {e : Ent} (h : Rem σ e σ') : σ'.Sublist σ := by
  obtain ⟨a, c, rfl, rfl⟩ := h.split
  exact (List.Sublist.refl a).append (List.sublist_cons_self e c)

/-- What is left when a block has been given up, and has turned. -/
theorem Good.rem {X : Fx} {M : Mem} {e : Ent} {w w' : World} (h : Good X M σ w) (hr : Rem σ e σ') (hos : w'.os = w.os) (htp : w'.tape = w.tape) (hout : w'.output = w.output) (hold : ∀ k, e.block ≠ some k → w'.heap[k]? = w.heap[k]?) : Good X M σ' w' := by
  obtain ⟨a, c, rfl, rfl⟩ := hr.split
  have hme : e ∈ a ++ e :: c := by simp
  have hnod := h.nod
  simp only [List.filterMap_append, List.filterMap_cons] at hnod
  have oth : ∀ x ∈ a ++ c, ∀ b, x.block = some b → e.block ≠ some b := by
    intro x hx b hb heq
    rw [heq] at hnod
    simp only [List.nodup_append, List.nodup_cons] at hnod
    rcases List.mem_append.1 hx with hx | hx
    · exact hnod.2.2 b (List.mem_filterMap.2 ⟨x, hx, hb⟩) b (by simp) rfl
    · exact hnod.2.1.1 (List.mem_filterMap.2 ⟨x, hx, hb⟩)
  have hsub : ∀ x ∈ a ++ c, x ∈ a ++ e :: c := fun x hx => hr.sub.subset hx
  refine ⟨hos.trans h.os, htp.trans h.tape, hout.trans h.output, fun b o ho => ?_, fun b o ho => ?_, h.dis, ?_, fun x hx => h.own x (hsub x hx), (hr.sub.filterMap _).nodup h.nod⟩
  · refine (hold b (fun hb => ?_)).trans (h.mem b o ho)
    have := (h.own e hme b hb).1; rw [ho] at this; cases this
  · refine (hold b (fun hb => ?_)).trans (h.frm b o ho)
    have := (h.own e hme b hb).2; rw [ho] at this; cases this
  · exact fun x hx => (h.ent x (hsub x hx)).same (fun b hb => hold b (oth x hx b hb))

/-- The blocks of deferred calls are given up. -/
inductive Marks : List Nat → List Ent → List Ent → Prop
  | nil {σ : List Ent} : Marks [] σ σ
  | cons {D : Nat} {ds : List Nat} {σ σ1 σ2 : List Ent} : Rem σ (.obj D (.deferred (some []))) σ1 → Marks ds σ1 σ2 → Marks (D :: ds) σ σ2

theorem leaves_marks {X : Fx} {M : Mem} {fn : Func} {tmps : Array Value} {R : Ending → World → Prop} {ds : List Nat} {σ σ1 : List Ent} (h : Marks ds σ σ1) : ∀ {w : World}, Good X M σ w → (∀ w', Good X M σ1 w' → ∃ v, (results fn tmps).run P w' = .ok v w' ∧ R (.returned v) w') →
    LeavesInM (fence none) 0 P fn tmps R (marksD ds) .returning w := by
  induction h with
  | nil => intro w hg hr; exact hr w hg
  | @cons D ds σ σ1 σ2 hrem _ ih =>
    intro w hg hr
    obtain ⟨a, c, rfl, rfl⟩ := hrem.split
    have hD : w.heap[D]? = some (.deferred (some [])) := hg.ent (.obj D (.deferred (some []))) (by simp)
    refine ⟨by simp, .inl ⟨D, w.putObj D (.deferred none), rfl, run_takeDeferred hD, ih ?_ hr⟩⟩
    exact hg.rem hrem rfl rfl rfl (fun k hk => World.putObj_heap_other (fun e => hk (by simp [Ent.block, e])))

/-- One result. -/
inductive Res1 (P : Program) (env : Env) (σ : List Ent) : ResultVar → AV → Prop
  | ofTmp {t : Tmp} {v : AV} (h : lk env t = some v) : Res1 P env σ (.tmp t) v
  | ofCell {a : Tmp} {t : TypeId} {sz : Nat} {p v : AV} (h : lk env a = some p) (ht : tyOf P t = some (false, sz)) (hp : Pts σ p 0 v) : Res1 P env σ (.cell a t) v
  | ofAgg {a : Tmp} {t : TypeId} {sz : Nat} {p : AV} {L : List AV} (h : lk env a = some p) (ht : tyOf P t = some (true, sz)) (h0 : 0 < sz) (hp : Slab σ p sz L) : Res1 P env σ (.cell a t) (.agg L)
inductive Res (P : Program) (env : Env) (σ : List Ent) : List ResultVar → List AV → Prop
  | nil : Res P env σ [] []
  | cons {r : ResultVar} {rs : List ResultVar} {v : AV} {vs : List AV} : Res1 P env σ r v → Res P env σ rs vs → Res P env σ (r :: rs) (v :: vs)
def oneA : List AV → AV
  | [v] => v
  | vs => .tup vs

def resV (tmps : Array Value) : ResultVar → Sem Value
  | .tmp t => pure (tmps.getD t undef)
  | .cell a t => do loadVar t (← asAddr (tmps.getD a undef))
theorem results_eq (fn : Func) (tmps : Array Value) : results fn tmps = (do let vs ← fn.results.mapM (resV tmps); pure (if h : vs.size = 1 then vs[0] else .tuple vs)) := by
  unfold results
  congr 1
theorem Res1.run {X : Fx} {M : Mem} {tmps : Array Value} {w : World} {r : ResultVar} {v : AV} (h : Res1 P env σ r v) (hg : Good X M σ w) (he : EnvRel M env tmps) :
    ∃ u, (resV tmps r).run P w = .ok u w ∧ VRel M v u := by
  cases h with
  | ofTmp h =>
    obtain ⟨u, h1, h2⟩ := he _ _ h
    exact ⟨u, by simp [resV, Array.getD_eq_getD_getElem?, h1], h2⟩
  | ofCell h ht hp =>
    obtain ⟨u, h1, h2⟩ := he _ _ h
    obtain ⟨ad, z, rfl, _, h3, h4⟩ := hp.cell hg h2
    obtain ⟨k1, k2⟩ := tyOf_spec ht w
    have h3' : w.cell? ad = some z := by simpa [Addr.add] using h3
    exact ⟨z, by simp [resV, Array.getD_eq_getD_getElem?, h1, asAddr, loadVar, Sem.run_bind, k1, run_load, h3'], h4⟩
  | ofAgg h ht h0 hp =>
    obtain ⟨u, h1, h2⟩ := he _ _ h
    obtain ⟨ad, rfl, h3⟩ := hp.addr hg h0 h2
    obtain ⟨vs, h4, h5⟩ := run_loadAgg (P := P) h3
    obtain ⟨k1, k2⟩ := tyOf_spec ht w
    rw [hp.pts.1] at h4
    exact ⟨.agg vs, by simp [resV, Array.getD_eq_getD_getElem?, h1, asAddr, loadVar, Sem.run_bind, k1, k2, h4], ⟨vs, rfl, h5⟩⟩
theorem Res.run {X : Fx} {M : Mem} {tmps : Array Value} {w : World} {rs : List ResultVar} {vs : List AV} (h : Res P env σ rs vs) (hg : Good X M σ w) (he : EnvRel M env tmps) :
    ∃ us, (rs.mapM (resV tmps)).run P w = .ok us w ∧ VRels M vs us := by
  induction h with
  | nil => exact ⟨[], rfl, by simp [VRels]⟩
  | cons h1 _ ih =>
    obtain ⟨us, e1, e2⟩ := ih
    obtain ⟨u, e3, e4⟩ := h1.run hg he
    refine ⟨u :: us, ?_, by simp only [VRels]; exact ⟨u, us, rfl, e4, e2⟩⟩
    rw [List.mapM_cons, Sem.run_bind, e3]
    simp only [Result.andThen_ok, Sem.run_bind, e1, Sem.run_pure]
theorem results_run {X : Fx} {M : Mem} {fn : Func} {tmps : Array Value} {w : World} {vs : List AV} (h : Res P env σ fn.results.toList vs) (hg : Good X M σ w) (he : EnvRel M env tmps) : ∃ u, (results fn tmps).run P w = .ok u w ∧ VRel M (oneA vs) u := by
  obtain ⟨us, h1, h2⟩ := h.run hg he
  have hl := h2.length
  rw [results_eq, Array.mapM_eq_mapM_toList]
  simp only [Functor.map]
  rw [show ∀ (m : Sem (List Value)), m.bind (Sem.pure ∘ List.toArray) = m >>= fun l => pure l.toArray from fun _ => rfl]
  simp only [Sem.run_bind, h1, Result.andThen_ok, Sem.run_pure]
  match vs, us, h2, hl with
  | [], [], h2, _ => exact ⟨.tuple #[], by simp, by simp [oneA, VRel, VRels]⟩
  | [v], [u], h2, _ => simp only [VRels, List.cons.injEq] at h2; obtain ⟨_, _, ⟨rfl, rfl⟩, h2, _⟩ := h2; exact ⟨u, by simp, h2⟩
  | v :: v' :: vs, u :: u' :: us, h2, _ => exact ⟨.tuple (u :: u' :: us).toArray, by simp, by simp only [oneA, VRel]; exact ⟨_, rfl, by simpa using h2⟩⟩

/-- What is handed back, seen otherwise. -/
def Fin (σ : List Ent) (r : AV) (Q : AV → List Ent → Prop) : Prop :=
  ∀ X M w u, Good X M σ w → VRel M r u → ∃ M' σ' r', M.le M' ∧ Good X M' σ' w ∧ VRel M' r' u ∧ Q r' σ'
theorem fin_done {r : AV} {Q : AV → List Ent → Prop} (h : Q r σ) : Fin σ r Q := fun _ M _ _ hg hv => ⟨M, σ, r, Mem.le_refl M, hg, hv, h⟩
theorem fin_drop {r : AV} {Q : AV → List Ent → Prop} (hs : σ'.Sublist σ) (h : Fin σ' r Q) : Fin σ r Q := fun X M w u hg hv => h X M w u (hg.sub hs) hv
theorem fin_view {r r' : AV} {Q : AV → List Ent → Prop} (hv : ∀ M u, VRel M r u → VRel M r' u) (h : Fin σ r' Q) : Fin σ r Q := fun X M w u hg hr => h X M w u hg (hv M u hr)

/-- An owned row, now immutable. -/
theorem Good.shut {X : Fx} {M : Mem} {v : Value} {e : TypeId} {sz : Nat} {l : List (List AV)} {w : World} (h : Good X M σ w) (hr : Rem σ (.row v e sz l) σ') : ∃ M', M.le M' ∧ Good X M' σ' w ∧ VRel M' (.dl sz l) v := by
  obtain ⟨a, c, rfl, rfl⟩ := hr.split
  have hme : Ent.row v e sz l ∈ a ++ Ent.row v e sz l :: c := by simp
  obtain ⟨xs, hown, hrel, hs⟩ := h.ent _ hme
  have hsub : ∀ x ∈ a ++ c, x ∈ a ++ Ent.row v e sz l :: c := fun x hx => hr.sub.subset hx
  rcases hown.2 with ⟨rfl, h0⟩ | ⟨g, cap, cur, rfl, hb, hgg, hnc, hcm, hcs, htk⟩
  · refine ⟨M, Mem.le_refl M, h.sub hr.sub, ?_⟩
    have : l = [] := List.eq_nil_of_length_eq_zero h0
    subst this
    simp only [VRel]
    exact ⟨none, 0, rfl, by simp, by omega, by simp, by simp⟩
  · have hno : M g = none ∧ X.fr g = none := h.own _ hme g rfl
    have hle : M.le (fun b => if b = g then some (.cells cur e (0, 0)) else M b) := fun b o ho => by
      simp only
      split
      · rename_i hb'; subst hb'; rw [hno.1] at ho; cases ho
      · exact ho
    refine ⟨_, hle, ⟨h.os, h.tape, h.output, ?_, h.frm, ?_, fun x hx => (h.ent x (hsub x hx)).mono hle, ?_, (hr.sub.filterMap _).nodup h.nod⟩, ?_⟩
    · intro b o ho
      split at ho
      · rename_i hb'; subst hb'; cases ho; exact hgg
      · exact h.mem b o ho
    · intro b o ho
      split at ho
      · rename_i hb'; subst hb'; exact hno.2
      · exact h.dis b o ho
    · intro x hx b hb'
      refine ⟨?_, (h.own x (hsub x hx) b hb').2⟩
      split
      · rename_i hbg
        subst hbg
        have hnod := h.nod
        simp only [List.filterMap_append, List.filterMap_cons, Ent.block, Value.ownBlock, List.nodup_append, List.nodup_cons] at hnod
        rcases List.mem_append.1 hx with hx | hx
        · exact absurd rfl (hnod.2.2 b (List.mem_filterMap.2 ⟨x, hx, hb'⟩) b (by simp))
        · exact absurd (List.mem_filterMap.2 ⟨x, hx, hb'⟩) hnod.2.1.1
      · exact (h.own x (hsub x hx) b hb').1
    · simp only [VRel]
      refine ⟨_, cap, rfl, hnc, hcm, hs, .inr ⟨g, 0, rfl, RRel.of_cells (VRels.mono hle _ _ hrel) (fun j v hv => ?_)⟩⟩
      unfold Mem.cell
      simp only [if_true]
      rw [← htk, List.getElem?_take] at hv
      split at hv
      · simpa using hv
      · cases hv

/-- The same value, v read as x here and there. -/
inductive Cv (v : Value) (x : AV) : List AV → List AV → Prop
  | nil : Cv v x [] []
  | here {l l' : List AV} : Cv v x l l' → Cv v x (.slv v :: l) (x :: l')
  | same {y : AV} {l l' : List AV} : Cv v x l l' → Cv v x (y :: l) (y :: l')
  | agg {m m' l l' : List AV} : Cv v x m m' → Cv v x l l' → Cv v x (.agg m :: l) (.agg m' :: l')
  | tup {m m' l l' : List AV} : Cv v x m m' → Cv v x l l' → Cv v x (.tup m :: l) (.tup m' :: l')
theorem Cv.rel {M : Mem} {v : Value} {x : AV} (hx : VRel M x v) {l l' : List AV} (h : Cv v x l l') : ∀ {vs : List Value}, VRels M l vs → VRels M l' vs := by
  induction h with
  | nil => exact fun h => h
  | here _ ih => intro vs h; simp only [VRels] at h ⊢; obtain ⟨u, r, rfl, h1, h2⟩ := h; simp only [VRel] at h1; obtain ⟨rfl, _⟩ := h1; exact ⟨_, _, rfl, hx, ih h2⟩
  | same _ ih => intro vs h; simp only [VRels] at h ⊢; obtain ⟨u, r, rfl, h1, h2⟩ := h; exact ⟨_, _, rfl, h1, ih h2⟩
  | agg _ _ ih1 ih2 => intro vs h; simp only [VRels, VRel] at h ⊢; obtain ⟨u, r, rfl, ⟨ws, rfl, h1⟩, h2⟩ := h; exact ⟨_, _, rfl, ⟨ws, rfl, ih1 h1⟩, ih2 h2⟩
  | tup _ _ ih1 ih2 => intro vs h; simp only [VRels, VRel] at h ⊢; obtain ⟨u, r, rfl, ⟨ws, rfl, h1⟩, h2⟩ := h; exact ⟨_, _, rfl, ⟨ws, rfl, ih1 h1⟩, ih2 h2⟩
theorem Cv.rel1 {M : Mem} {v : Value} {x r r' : AV} (hx : VRel M x v) (h : Cv v x [r] [r']) {u : Value} (hr : VRel M r u) : VRel M r' u := by
  have := h.rel hx (vs := [u]) (by simp only [VRels]; exact ⟨u, [], rfl, hr, rfl⟩)
  simp only [VRels, List.cons.injEq] at this
  obtain ⟨_, _, ⟨rfl, _⟩, h, _⟩ := this
  exact h
theorem fin_seal {r r' : AV} {Q : AV → List Ent → Prop} {v : Value} {e : TypeId} {sz : Nat} {l : List (List AV)} (hr : Rem σ (.row v e sz l) σ') (hc : Cv v (.dl sz l) [r] [r']) (h : Fin σ' r' Q) : Fin σ r Q := fun X M w u hg hv => by
  obtain ⟨M1, h1, h2, h3⟩ := hg.shut hr
  obtain ⟨M2, σ2, r2, h4, h5, h6, h7⟩ := h X M1 w u h2 (hc.rel1 h3 (hv.mono h1))
  exact ⟨M2, σ2, r2, Mem.le_trans h1 h4, h5, h6, h7⟩
/-- nil is an empty slice. -/
theorem fin_nil {r r' : AV} {Q : AV → List Ent → Prop} {sz : Nat} (hc : Cv nilS (.dl sz []) [r] [r']) (h : Fin σ r' Q) : Fin σ r Q :=
  fin_view (fun M u hv => hc.rel1 (by simp only [VRel]; exact ⟨none, 0, rfl, by simp, by omega, by simp, by simp⟩) hv) h

def RetOK (P : Program) (fn : Func) (Q : AV → List Ent → Prop) (s : St) : Prop := ∃ vs σ1, Marks s.marks s.σ σ1 ∧ Res P s.env σ1 fn.results.toList vs ∧ Fin σ1 (oneA vs) Q
def retA (P : Program) (fn : Func) (Q : AV → List Ent → Prop) : Exit → St → Prop
  | .ret, s => RetOK P fn Q s
  | .normal, s => RetOK P fn Q s
  | _, _ => False

def argsEnv : Nat → List AV → Env
  | _, [] => []
  | k, v :: r => (k, v) :: argsEnv (k + 1) r
theorem argsEnv_get : ∀ (l : List AV) (k t : Nat) (v : AV), lk (argsEnv k l) t = some v → k ≤ t ∧ l[t - k]? = some v
  | [], k, t, v, h => by simp [argsEnv, lk] at h
  | x :: l, k, t, v, h => by
    by_cases e : k = t
    · subst e; simp only [argsEnv] at h; rw [lk_cons_same] at h; simpa using h
    · simp only [argsEnv] at h
      rw [lk_cons_ne e] at h
      obtain ⟨h1, h2⟩ := argsEnv_get l (k + 1) t v h
      refine ⟨by omega, ?_⟩
      rw [show t - k = (t - (k + 1)) + 1 by omega]
      simpa using h2

theorem scall_of {f : FuncId} {fn : Func} {c : Code} {args : List AV} {Q : AV → List Ent → Prop} (hf : P.funcs[f]? = some fn) (hb : fn.body = some c) (hn : args.length ≤ fn.ntmps)
    (h : EX P none c (retA P fn Q) ⟨argsEnv 0 args, σ, [], fn.ntmps⟩) : SCall P f args σ Q := by
  refine ⟨fun X M w vs hg ha => ?_⟩
  have hl := ha.length
  simp only [Array.length_toList] at hl
  refine callsIn_wide (n := 0).1 (callsIn_of_wp_marks hf hb trivial ?_)
  have hs : Sim X M ⟨argsEnv 0 args, σ, [], fn.ntmps⟩ { tmps := vs ++ Array.replicate (fn.ntmps - vs.size) undef, defers := [] } w := by
    refine ⟨hg, by simp; omega, rfl, fun t v hv => ?_⟩
    obtain ⟨_, h2⟩ := argsEnv_get _ _ _ _ hv
    obtain ⟨u, h3, h4⟩ := ha.get h2
    refine ⟨u, ?_, h4⟩
    simp only [Nat.sub_zero, Array.getElem?_toList] at h3
    have hlt : t < vs.size := by rcases Nat.lt_or_ge t vs.size with h | h; exact h; rw [Array.getElem?_eq_none h] at h3; cases h3
    rw [Array.getElem?_append_left hlt]; exact h3
  refine Go.wpIn_mono (h.run X M _ w hs) ?_
  rintro e a' w' ⟨M', s', hm, hs', hq⟩
  have fin : RetOK P fn Q s' → LeavesInM Fence.wide 0 P fn a'.tmps (fun e w' => ∃ M' σ' r v, M.le M' ∧ Good X M' σ' w' ∧ VRel M' r v ∧ e = .returned v ∧ Q r σ') a'.defers .returning w' := by
    rintro ⟨rs, σ1, h1, h2, h3⟩
    rw [hs'.defs]
    refine leaves_marks h1 hs'.good (fun w2 hg2 => ?_)
    obtain ⟨u, hu, hv⟩ := results_run h2 hg2 hs'.env
    obtain ⟨M2, σ2, r2, k1, k2, k3, k4⟩ := h3 X M' w2 u hg2 hv
    exact ⟨u, hu, M2, σ2, r2, u, Mem.le_trans hm k1, k2, k3, rfl, k4⟩
  cases e with
  | ret => exact fin hq
  | normal => exact fin hq
  | exit id => exact hq.elim
  | goto l => exact hq.elim
  | panic ch => exact hq.elim
  | outgrown => exact hq.elim
end
end Go.Proofs.Ytobcnochlkdpaaa
