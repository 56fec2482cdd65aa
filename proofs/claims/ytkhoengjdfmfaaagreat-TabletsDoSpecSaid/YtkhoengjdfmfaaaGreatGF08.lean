/- Parts of the proof that belong together: Spn Sby Sdf Na Nb Nc Sdp. -/
import Derived.Test.YtkhoengjdfmfaaaGreatGF02
import Derived.Test.YtkhoengjdfmfaaaGreatGF03
import Derived.Test.YtkhoengjdfmfaaaGreatGF04
import Derived.Test.YtkhoengjdfmfaaaGreatGF06
import Derived.Test.YtkhoengjdfmfaaaGreatGF07
import Derived.Laws.BytesArg
import Derived.Lib.AppendStr
import Derived.RecoverIn
set_option maxRecDepth 10000
set_option maxHeartbeats 8000000
set_option linter.unusedSimpArgs false
set_option linter.unusedVariables false
namespace Go.Proofs.YtkhoengjdfmfaaaGreat
structure PCall (P : Program) (ch : List PanicEntry) (N : Prop) (f : FuncId) (args : List AV) (σ : List Ent) (Q : AV → List Ent → Prop) : Prop where
 run : ∀ X M w (vs : Array Value), Good X M σ w → VRels M args vs.toList → Calls P f vs w fun e w' => (∃ M' σ' r v, M.le M' ∧ Good X M' σ' w' ∧ VRel M' r v ∧ e = .returned v ∧ Q r σ') ∨ (e = .panicked ch ∧ N ∧ ∃ M', M.le M' ∧ Good X M' [] w')
structure GOpP (P : Program) (ro : Option Nat) (ch : List PanicEntry) (N : Prop) (o : Oper) (env : Env) (σ : List Ent) (R : AV → List Ent → Prop) : Prop where
 run : ∀ X M a w, Good X M σ w → OpRel M env a o → ∀ (K : Act → World → Prop) (Qx : Exit → Act → World → Prop),
  (∀ M' u w' v σ', M.le M' → Good X M' σ' w' → VRel M' v u → R v σ' → K (a.put o.dst u) w') → (N → ∀ M' w', M.le M' → Good X M' [] w' → Qx (.panic ch) a w') → o.wpIn (uP ro) 0 P a w K Qx
section
variable {P : Program} {ro : Option Nat} {ch : List PanicEntry} {N : Prop} {Q : Exit → St → Prop} {ops : Array Oper} {rest l : List Oper} {o : Oper} {env : Env} {σ σ' : List Ent} {mk : List Nat} {n : Nat} {R : AV → List Ent → Prop}
variable {dst : Option Tmp} {ty : TypeId} {pos : String} {after : Array Edge} {guard : Option (Nat × Bool)}
theorem PCall.mono {f : FuncId} {args : List AV} {σ : List Ent} {Q Q' : AV → List Ent → Prop} (h : PCall P ch N f args σ Q) (hq : ∀ r τ, Q r τ → Q' r τ) : PCall P ch N f args σ Q' :=
 ⟨fun X M w vs hg ha => (h.run X M w vs hg ha).mono fun e w' hx => by
  rcases hx with ⟨M', σ', r, v, h1, h2, h3, h4, h5⟩ | hx
  ·exact .inl ⟨M', σ', r, v, h1, h2, h3, h4, hq _ _ h5⟩
  ·exact .inr hx⟩
theorem PCall.imp {N' : Prop} {f : FuncId} {args : List AV} {σ : List Ent} {Q : AV → List Ent → Prop} (h : PCall P ch N f args σ Q) (hn : N → N') : PCall P ch N' f args σ Q :=
 ⟨fun X M w vs hg ha => (h.run X M w vs hg ha).mono fun e w' hx => by
  rcases hx with hx | ⟨h1, h2, h3⟩
  ·exact .inl hx
  ·exact .inr ⟨h1, hn h2, h3⟩⟩
/-- More is owned than is handed over; it is kept if nothing panics. -/
theorem PCall.more {f : FuncId} {args : List AV} {σ : List Ent} {Q : AV → List Ent → Prop} (h : PCall P ch N f args σ Q) (τ : List Ent) : PCall P ch N f args (σ ++ τ) (fun r σ' => ∃ σ1, Q r σ1 ∧ σ' = σ1 ++ τ) := by
 refine ⟨fun X M w vs hg ha => ?_⟩
 obtain ⟨X', h1, h2⟩ := hg.framed
 refine (h.run X' M w vs h1 ha).mono fun e w' hx => ?_
 rcases hx with ⟨M', σ', r, v, k1, k2, k3, k4, k5⟩ | ⟨k1, kn, M', k2, k3⟩
 ·exact .inl ⟨M', σ' ++ τ, r, v, k1, h2 _ _ _ k1 k2, k3, k4, σ', k5, rfl⟩
 ·exact .inr ⟨k1, kn, M', k2, (h2 _ _ _ k2 k3).sub (List.nil_sublist _)⟩
/-- What is said of one entry's change, wherever it stands. -/
theorem PCall.at {f : FuncId} {args : List AV} {σ : List Ent} {e : Ent} {Q : AV → Ent → Prop} (h : PCall P ch N f args [e] (fun r τ => ∃ e', Q r e' ∧ τ = [e'])) {F : Ent → List Ent} (hu : ∀ e', Upd σ e e' (F e')) : PCall P ch N f args σ (fun r τ => ∃ e', Q r e' ∧ τ = F e') := by
 obtain ⟨a, c, h1, h2⟩ := (hu e).split
 have hp : σ.Perm ([e] ++ (a ++ c)) := by rw [h1]; exact List.perm_middle
 refine ⟨fun X M w vs hg ha => ?_⟩
 refine ((h.more (a ++ c)).run X M w vs (hg.perm hp) ha).mono fun e0 w' hx => ?_
 rcases hx with ⟨M', σ', r, v, k1, k2, k3, k4, σ1, ⟨e', k5, rfl⟩, rfl⟩ | hx
 ·refine .inl ⟨M', F e', r, v, k1, k2.perm ?_, k3, k4, e', k5, rfl⟩
  obtain ⟨a', c', m1, m2⟩ := (hu e').split
  have h5 : (e :: (a ++ c)).Perm (e :: (a' ++ c')) := by
   have : (a ++ e :: c).Perm (a' ++ e :: c') := by rw [← h1, ← m1]
   exact List.perm_middle.symm.trans (this.trans List.perm_middle)
  rw [m2]
  exact ((h5.cons_inv).cons e').trans List.perm_middle.symm
 ·exact .inr hx
theorem gp_of (h : GOp P ro o env σ R) : GOpP P ro ch N o env σ R := ⟨fun X M a w hg ho K Qx hK _ => h.run X M a w hg ho K Qx hK⟩
theorem uD {f : Operand} {args : Array Operand} {ats : Array TypeId} {g : FuncId} {first cap l : List AV} {Q : AV → List Ent → Prop} (hf : xP env f = some (.fn (.func g) first cap)) (hl : evAs env args.toList = some l) (he : Enters P g) (h : PCall P ch N g (first ++ l ++ cap) σ Q) :
  GOpP P ro ch N ⟨dst, .call { callee := .value f, args := args, argTypes := ats }, ty, pos, after, guard⟩ env σ Q := by
 refine ⟨fun X M a w hg ho K Qx hK hP => ?_⟩
 have h1 := ho f (by simp [Op.operands, Call.operands]) _ hf
 simp only [VRel] at h1
 obtain ⟨vs, ws, hv, k1, k2⟩ := h1
 have k3 := evAs_rel (a := a) (M := M) (fun x hx v hv => ho x (by simp only [Op.operands, Call.operands, Array.mem_append]; exact .inr (by simpa using hx)) v hv) hl
 refine ⟨fun f _ => uB f ro, ?_⟩
 rw [Oper.semAt_eq _ _ _ (by intro c h; cases h)]
 have hrun : (execOp a.eval ⟨dst, .call { callee := .value f, args := args, argTypes := ats }, ty, pos, after, guard⟩).run P w = .ok (.enter g (vs ++ args.map a.eval ++ ws)) w := by
  simp only [execOp, resolve, Sem.run_bind, hv, Deferred.ofValue, Sem.run_pure, Result.andThen_ok, invoke]
  exact he _ _
 rw [hrun]
 refine ⟨fun hd => (by cases hd), callsIn_fence ((h.run X M w _ hg (by simpa using (k1.append k3).append k2)).mono ?_)⟩
 rintro e w' (⟨M', σ', r, v, hm, hg', hv', rfl, hq⟩ | ⟨rfl, hN, M', hm, hg'⟩)
 ·exact hK M' v w' r σ' hm hg' hv' hq
 ·exact hP hN M' w' hm hg'
/-- One operation that may panic. -/
theorem exl_pcore {R : AV → List Ent → Prop} (hw : ∀ a : Act, a.tmps.size = n → (∀ M, EnvRel M env a.tmps → Region.wanted o (yielded ops a.tmps) = true)) (hd : uN o.dst n = true) (hg : GOpP P ro ch N o env σ R) (hp : N → Q (.panic ch) ⟨env, [], mk, n⟩)
  (h : ∀ v σ', R v σ' → EXL P ro ops rest Q ⟨put o.dst v env, σ', mk, n⟩) : EXL P ro ops (o :: rest) Q ⟨env, σ, mk, n⟩ := by
 refine ⟨fun X M a w hs => ?_⟩
 unfold wpListIn
 rw [if_pos (hw a hs.size M hs.env)]
 refine hg.run X M a w hs.good (hs.env.op o) _ _ ?_ ?_
 ·intro M' u w' v σ' hm hgd hv hR
  exact wK (fun _ _ _ hp => vB hm (fun _ _ h => h) hp) _ _ _ ((h v σ' hR).run X M' _ w' (hs.put hm hgd hd hv))
 ·intro hN M' w' hm hg'
  exact ⟨M', ⟨env, [], mk, n⟩, hm, ⟨hg', hs.size, hs.defs, hs.env.mono hm⟩, hp hN⟩
theorem exl_p {R : AV → List Ent → Prop} {d : Nat} (hgd : o.guard = none) (hd : o.dst = some d) (hn : Nat.blt d n = true) (hg : GOpP P ro ch N o env σ R) (hp : N → Q (.panic ch) ⟨env, [], mk, n⟩)
  (h : ∀ v σ', R v σ' → EXL P ro ops rest Q ⟨(d, v) :: env, σ', mk, n⟩) : EXL P ro ops (o :: rest) Q ⟨env, σ, mk, n⟩ :=
 exl_pcore (fun a _ _ _ => by simp [Region.wanted, hgd]) (dst_ok hd hn) hg hp (fun v σ' hr => by rw [hd]; exact h v σ' hr)
def retP (P : Program) (fn : Func) (ch : List PanicEntry) (N : Prop) (Q : AV → List Ent → Prop) : Exit → St → Prop
 | .panic c, s => c = ch ∧ s.marks = [] ∧ N
 | .ret, s => RetOK P fn Q s
 | .normal, s => RetOK P fn Q s
 | _, _ => False
theorem pcall_of {f : FuncId} {fn : Func} {c : Code} {args : List AV} {Q : AV → List Ent → Prop} (hf : P.funcs[f]? = some fn) (hb : fn.body = some c) (hn : args.length ≤ fn.ntmps)
  (h : EX P none c (retP P fn ch N Q) ⟨pR 0 args, σ, [], fn.ntmps⟩) : PCall P ch N f args σ Q := by
 refine ⟨fun X0 M w vs hg0 ha => ?_⟩
 obtain ⟨X, hX⟩ : ∃ X : Fx, X = { X0 with dt := [] } := ⟨_, rfl⟩
 have hg : Good X M σ w := hX ▸ hg0.dt []
 have back : ∀ {M σ w}, Good X M σ w → Good X0 M σ w := fun h => (hX ▸ h : Good { X0 with dt := [] } _ _ _).undt
 have hl := ha.length
 simp only [Array.length_toList] at hl
 refine callsIn_wide (n := 0).1 (callsIn_of_wp_marks hf hb trivial ?_)
 have hs : Sim X M ⟨pR 0 args, σ, [], fn.ntmps⟩ { tmps := vs ++ Array.replicate (fn.ntmps - vs.size) undef, defers := [] } w := by
  refine ⟨hg, by simp; omega, by rw [hX]; rfl, fun t v hv => ?_⟩
  obtain ⟨_, h2⟩ := argsEnv_get _ _ _ _ hv
  obtain ⟨u, h3, h4⟩ := ha.get h2
  refine ⟨u, ?_, h4⟩
  simp only [Nat.sub_zero, Array.getElem?_toList] at h3
  have hlt : t < vs.size := by rcases Nat.lt_or_ge t vs.size with h | h; exact h; rw [Array.getElem?_eq_none h] at h3; cases h3
  rw [Array.getElem?_append_left hlt]; exact h3
 refine Go.wpIn_mono (h.run X M _ w hs) ?_
 rintro e a' w' ⟨M', s', hm, hs', hq⟩
 have fin : RetOK P fn Q s' → LeavesInM Fence.wide 0 P fn a'.tmps (fun e w' => (∃ M' σ' r v, M.le M' ∧ Good X0 M' σ' w' ∧ VRel M' r v ∧ e = .returned v ∧ Q r σ') ∨ (e = .panicked ch ∧ N ∧ ∃ M', M.le M' ∧ Good X0 M' [] w')) a'.defers .returning w' := by
  rintro ⟨rs, σ1, h1, h2, h3⟩
  rw [hs'.defs, show X.dt = [] by rw [hX], List.append_nil]
  refine leaves_marks h1 hs'.good (fun w2 hg2 => ?_)
  obtain ⟨u, hu, hv⟩ := results_run h2 hg2 hs'.env
  obtain ⟨M2, σ2, r2, k1, k2, k3, k4⟩ := h3 X M' w2 u hg2 hv
  exact ⟨u, hu, .inl ⟨M2, σ2, r2, u, Mem.le_trans hm k1, back k2, k3, rfl, k4⟩⟩
 cases e with
 | ret => exact fin hq
 | normal => exact fin hq
 | exit id => exact hq.elim
 | goto l => exact hq.elim
 | panic c =>
  obtain ⟨rfl, hmk, hN⟩ := hq
  show LeavesInM Fence.wide 0 P fn a'.tmps _ a'.defers (.panicking c) w'
  rw [hs'.defs, show X.dt = [] by rw [hX], hmk]
  exact .inr ⟨rfl, hN, M', hm, back (hs'.good.sub (List.nil_sublist _))⟩
 | outgrown => exact hq.elim
end
section
variable (P : Program) (ro : Option Nat) (ch : List PanicEntry) (N : Prop) (le : List Ent → List Ent → Prop) (ops : Array Oper)
def GOpFP (o : Oper) (e : EnvF) (σ : List Ent) (R : AV → List Ent → Prop) : Prop :=
 ∀ X M a w, Good X M σ w → (∀ x ∈ o.op.operands, ∀ v, evF e x = some v → VRel M v (a.eval x)) → ∀ (K : Act → World → Prop) (Qx : Exit → Act → World → Prop),
  (∀ M' u w' v σ', M.le M' → Good X M' σ' w' → VRel M' v u → R v σ' → K (a.put o.dst u) w') → (N → ∀ M' w', M.le M' → Good X M' [] w' → Qx (.panic ch) a w') → o.wpIn (uP ro) 0 P a w K Qx
def stepP (i : Nat) (K : EnvF → List Ent → Prop) (e : EnvF) (σ : List Ent) : Prop := match ops[i]? with
 | none => K e σ
 | some o => (gF ops o e = some false ∧ K (qU o.dst (.raw undef) e) σ) ∨
  (gF ops o e = some true ∧ ((∃ v, QF P ro le o e σ v ∧ K (qU o.dst v e) σ) ∨ ∃ R, GOpFP P ro ch N o e σ R ∧ ∀ v σ', R v σ' → le σ σ' ∧ K (qU o.dst v e) σ'))
def anyP (Q : EnvF → List Ent → Prop) : Nat → Array Bool → EnvF → List Ent → Prop
 | 0, L, e, σ => Region.ready .any ops L = [] ∧ Q e σ
 | f + 1, L, e, σ => (Region.ready .any ops L = [] → Q e σ) ∧ ∀ i ∈ Region.ready .any ops L, stepP P ro ch N le ops i (anyP Q f (L.setIfInBounds i true)) e σ
end
section
variable {P : Program} {ro : Option Nat} {ch : List PanicEntry} {N : Prop} {le : List Ent → List Ent → Prop} {ops : Array Oper}
theorem stepP_mono {i : Nat} {K K' : EnvF → List Ent → Prop} {e : EnvF} {σ : List Ent} (hk : ∀ e σ, K e σ → K' e σ) (h : stepP P ro ch N le ops i K e σ) : stepP P ro ch N le ops i K' e σ := by
 unfold stepP at *
 split
 ·rename_i ho; simp only [ho] at h; exact hk _ _ h
 ·rename_i o ho
  simp only [ho] at h
  rcases h with ⟨h1, h2⟩ | ⟨h1, ⟨v, h2, h3⟩ | ⟨R, h2, h3⟩⟩
  ·exact .inl ⟨h1, hk _ _ h2⟩
  ·exact .inr ⟨h1, .inl ⟨v, h2, hk _ _ h3⟩⟩
  ·exact .inr ⟨h1, .inr ⟨R, h2, fun v σ' hr => ⟨(h3 v σ' hr).1, hk _ _ (h3 v σ' hr).2⟩⟩⟩
theorem GOpFP.congr {o : Oper} {e e' : EnvF} {σ : List Ent} {R : AV → List Ent → Prop} (h : GOpFP P ro ch N o e σ R) (he : ∀ x ∈ o.op.operands, evF e' x = evF e x) : GOpFP P ro ch N o e' σ R :=
 fun X M a w hg ho K Qx hK hP => h X M a w hg (fun x hx v hv => ho x hx v (by rw [he x hx]; exact hv)) K Qx hK hP
theorem gopFP_iff {o : Oper} {env : Env} {σ : List Ent} {R : AV → List Ent → Prop} (h : GOpP P ro ch N o env σ R) : GOpFP P ro ch N o (lk env) σ R :=
 fun X M a w hg ho K Qx hK hP => h.run X M a w hg (fun x hx v hv => ho x hx v (by rw [evF_lk]; exact hv)) K Qx hK hP
theorem Yld.stepP {i : Nat} {o : Oper} {v : AV} {e : EnvF} {σ : List Ent} (hi : ops[i]? = some o) (hy : Yld P ro le ops o v e σ) {K : EnvF → List Ent → Prop} (h : K (qU o.dst v e) σ) : stepP P ro ch N le ops i K e σ := by
 unfold Go.Proofs.YtkhoengjdfmfaaaGreat.stepP
 simp only [hi]
 rcases hy with ⟨h1, h2⟩ | ⟨h1, rfl⟩
 ·exact .inr ⟨h1, .inl ⟨v, h2, h⟩⟩
 ·exact .inl ⟨h1, h⟩
theorem stepP_put {j : Nat} {oi oj : Oper} {v : AV} (hrf : ∀ a, le a a) (htr : ∀ a b c, le a b → le b c → le a c) (hj : ops[j]? = some oj) (hap : oi.apart ops oj = true) {K : EnvF → List Ent → Prop} {e : EnvF} {σ : List Ent}
  (hy : Yld P ro le ops oi v e σ) (h : stepP P ro ch N le ops j K (qU oi.dst v e) σ) : stepP P ro ch N le ops j (fun e' σ' => Yld P ro le ops oi v e' σ' ∧ K (qU oi.dst v e') σ') e σ := by
 obtain ⟨h1, h2, h3⟩ := Oper.apart_spec hap
 unfold stepP at *
 simp only [hj] at *
 rw [gF_put h1] at h
 have cg : ∀ {σ R}, GOpF P ro oj (qU oi.dst v e) σ R → GOpF P ro oj e σ R := fun hh => hh.congr (fun x hx => (evF_put h1 hx).symm)
 have cp : ∀ {σ R}, GOpFP P ro ch N oj (qU oi.dst v e) σ R → GOpFP P ro ch N oj e σ R := fun hh => hh.congr (fun x hx => (evF_put h1 hx).symm)
 rcases h with ⟨g, hk⟩ | ⟨g, ⟨u, hq, hk⟩ | ⟨R, hR, hk⟩⟩
 ·exact .inl ⟨g, hy.put htr (hrf σ) _ h3, by rw [← putF_comm e v (.raw undef) h2]; exact hk⟩
 ·exact .inr ⟨g, .inl ⟨u, fun σ' hl => cg (hq σ' hl), hy.put htr (hrf σ) _ h3, by rw [← putF_comm e v u h2]; exact hk⟩⟩
 ·exact .inr ⟨g, .inr ⟨R, cp hR, fun u σ' hr => ⟨(hk u σ' hr).1, hy.put htr (hk u σ' hr).1 _ h3, by rw [← putF_comm e v u h2]; exact (hk u σ' hr).2⟩⟩⟩
theorem anyP_first {Q : EnvF → List Ent → Prop} {i : Nat} {oi : Oper} {v : AV} (hrf : ∀ a, le a a) (htr : ∀ a b c, le a b → le b c → le a c) (hi : ops[i]? = some oi) :
  ∀ (fuel : Nat) (L : Array Bool) (e : EnvF) (σ : List Ent),
   (∀ j oj, ops[j]? = some oj → j ≠ i → L.getD j true = false → (∀ x ∈ oj.after, Region.binds .any x = true → x.on ≠ i) → oi.apart ops oj = true) →
   i ∈ Region.ready .any ops L → Yld P ro le ops oi v e σ →
   anyP P ro ch N le ops Q fuel (L.setIfInBounds i true) (qU oi.dst v e) σ → anyP P ro ch N le ops Q (fuel + 1) L e σ := by
 intro fuel
 induction fuel with
 | zero =>
  intro L e σ hfree hr hy H
  refine ⟨fun h => (by rw [h] at hr; cases hr), fun j hj => ?_⟩
  by_cases hji : j = i
  ·subst hji; exact hy.stepP hi H
  ·have := ready_mono hj hji
   rw [H.1] at this
   cases this
 | succ fuel ih =>
  intro L e σ hfree hr hy H
  refine ⟨fun h => (by rw [h] at hr; cases hr), fun j hj => ?_⟩
  by_cases hji : j = i
  ·subst hji; exact hy.stepP hi H
  ·have h1 := H.2 j (ready_mono hj hji)
   obtain ⟨hjun, oj, hoj, hall⟩ := mem_ready.1 hj
   have hnot : ∀ x ∈ oj.after, Region.binds .any x = true → x.on ≠ i := fun x hx hb heq => by
    have h1 := hall x hx hb
    have h0 := (mem_ready.1 hr).1
    rw [heq] at h1
    rcases Nat.lt_or_ge i L.size with h' | h'
    ·simp [h'] at h0 h1; rw [h0] at h1; cases h1
    ·simp [Array.getElem?_eq_none h'] at h1
   have h2 := stepP_put hrf htr hoj (hfree j oj hoj hji hjun hnot) hy h1
   have hfree' : ∀ k ok, ops[k]? = some ok → k ≠ i → (L.setIfInBounds j true).getD k true = false →
     (∀ x ∈ ok.after, Region.binds .any x = true → x.on ≠ i) → oi.apart ops ok = true := fun k ok hk hki hun hno => by
    refine hfree k ok hk hki ?_ hno
    by_cases hjk : j = k
    ·subst hjk; exact hjun
    ·rw [getD_set_ne true hjk] at hun; exact hun
   refine stepP_mono (fun e' σ' h3 => ih (L.setIfInBounds j true) e' σ' hfree' (ready_mono hr (Ne.symm hji)) h3.1 ?_) h2
   rw [Array.setIfInBounds_comm _ _ hji]
   exact h3.2
theorem anyP_head {l : List Oper} {n : Nat} {ef : List Nat} (hrf : ∀ a, le a a) {nn : Nat} {ds : List Deferred} {Qr : Exit → Act → World → Prop} {g : Nat} {Q : EnvF → List Ent → Prop} {X : Fx} (hB : vZ ef l n = true) (hn : n ≤ l.length) (hp : preB l n = true) (hd : ∀ o ∈ l, uN o.dst nn = true)
  {M0 : Mem} (hQ : ∀ M e σ a w, M0.le M → SimF X M e σ nn ds a w → Q e σ → wpAnyIn (uP ro) 0 P .any l.toArray Qr g (fullB l n) a w) (hpan : N → ∀ M e a w, M0.le M → SimF X M e [] nn ds a w → Qr (.panic ch) a w) :
  ∀ f L M' (M : Mem) e σ a w, Goes l n f L M' → M0.le M → SimF X M e σ nn ds a w → anyP P ro ch N le (l.take n).toArray Q f M' e σ → wpAnyIn (uP ro) 0 P .any l.toArray Qr (f + g) L a w
 | 0, L, M', M, e, σ, a, w, hb, hm, hs, h => by
  rw [hb.full hn, Nat.zero_add]
  exact hQ M e σ a w hm hs h.2
 | f + 1, L, M', M, e, σ, a, w, hb, hm, hs, h => by
  obtain ⟨heq, hne⟩ := hb.ready hn hp
  rw [show f + 1 + g = (f + g) + 1 by omega]
  refine ⟨fun h0 => absurd h0 hne, fun i hi => ?_⟩
  have hi' : i ∈ Region.ready .any (l.take n).toArray M' := heq ▸ hi
  have hnx := hb.next hn hp hi'
  have h2 := h.2 i hi'
  obtain ⟨_, o, ho, _⟩ := mem_ready.1 hi'
  obtain ⟨ho', hwt⟩ := head_op hB ho
  have hol : o ∈ l := by have : l[i]? = some o := by simpa using ho'
                         exact List.mem_of_getElem? this
  unfold stepP at h2
  simp only [ho] at h2
  unfold wpOpIn
  simp only [ho']
  rcases h2 with ⟨h3, h4⟩ | ⟨h3, ⟨v, hq, hk⟩ | ⟨R, hR, hk⟩⟩
  ·have hw := hs.wanted h3
   rw [hwt] at hw
   simp only [hw, Bool.false_eq_true, if_false]
   exact ⟨fun f _ => uB f ro, anyP_head hrf hB hn hp hd hQ hpan f _ _ M _ σ _ w hnx hm (hs.put (Mem.le_refl M) hs.good (hd o hol) (by simp [VRel])) h4⟩
  ·have hw := hs.wanted h3
   rw [hwt] at hw
   simp only [hw, if_true]
   refine hq σ (hrf σ) X M a w hs.good (fun x _ v hv => hs.eval hv) _ _ ?_
   rintro M2 u w' v' σ' hm2 hg2 hv2 ⟨⟩
   exact anyP_head hrf hB hn hp hd hQ hpan f _ _ M2 _ _ _ w' hnx (Mem.le_trans hm hm2) (hs.put hm2 hg2 (hd o hol) hv2) hk
  ·have hw := hs.wanted h3
   rw [hwt] at hw
   simp only [hw, if_true]
   refine hR X M a w hs.good (fun x _ v hv => hs.eval hv) _ _ ?_ ?_
   ·intro M2 u w' v σ' hm2 hg2 hv2 hr2
    exact anyP_head hrf hB hn hp hd hQ hpan f _ _ M2 _ σ' _ w' hnx (Mem.le_trans hm hm2) (hs.put hm2 hg2 (hd o hol) hv2) (hk v σ' hr2).2
   ·intro hN M2 w' hm2 hg2
    exact hpan hN M2 (fun _ => none) a w' (Mem.le_trans hm hm2) ⟨hg2, hs.size, hs.defs, fun _ _ h => by cases h⟩
structure DRP (P : Program) (ro : Option Nat) (ch : List PanicEntry) (N : Prop) (kp : Ent → Prop) (ef : List Nat) (ops : Array Oper) (F : Env → List Ent → Prop) (f : Nat) (L : Array Bool) (env : Env) (σ : List Ent) : Prop where
 run : anyP P ro ch N (AddsK kp) ops (fun e σ => ∃ env, lk env = e ∧ F env σ) f L (lk env) σ
structure DPS (P : Program) (ro : Option Nat) (ch : List PanicEntry) (N : Prop) (kp : Ent → Prop) (o : Oper) (env : Env) (σ : List Ent) (K : Env → List Ent → Prop) : Prop where
 run : o.guard = none ∧ ∃ R, GOpP P ro ch N o env σ R ∧ ∀ v σ', R v σ' → AddsK kp σ σ' ∧ K (put o.dst v env) σ'
theorem ex_drp {id : Nat} {l : List Oper} {mk : List Nat} {n : Nat} {Q : Exit → St → Prop} {env : Env} {σ : List Ent} (kp : Ent → Prop) (ef : List Nat) (m : Nat) (hm : P.follows .mixedOrders = true) (hB : vZ [] l m = true) (hd : (l.all fun o => uN o.dst n) = true) (hp : N → ∀ env, Q (.panic ch) ⟨env, [], mk, n⟩)
  (h : DRP P ro ch N kp ef (l.take m).toArray (fun env σ => EXL P ro l.toArray (l.drop m) Q ⟨env, σ, mk, n⟩) m (Array.replicate m false) env σ) : EX P ro (.region id l.toArray true) Q ⟨env, σ, mk, n⟩ := by
 refine ⟨fun X M a w hs => ?_⟩
 refine wpIn_region_any hm ?_
 have hB0 := hB
 simp only [vZ, Bool.and_eq_true, decide_eq_true_eq] at hB0
 obtain ⟨⟨⟨⟨_, _⟩, hpre⟩, htail⟩, hn⟩ := hB0
 have hd' : ∀ o ∈ l, uN o.dst n = true := fun o ho => List.all_eq_true.1 hd o ho
 have := anyP_head (P := P) (ro := ro) (ch := ch) (N := N) (le := AddsK kp) AddsK.refl (nn := n) (ds := marksD mk ++ X.dt) (Qr := postA X M Q) (g := l.length - m) (X := X) (M0 := M) hB hn hpre hd' (Q := fun e σ => ∃ env, lk env = e ∧ EXL P ro l.toArray (l.drop m) Q ⟨env, σ, mk, n⟩) ?_ ?_ m _ _ M (lk env) σ a _ (Goes.start hn) (Mem.le_refl M) ⟨hs.good.drew, hs.size, hs.defs, hs.env⟩ h.run
 ·rw [List.size_toArray]
  rwa [show m + (l.length - m) = l.length by omega] at this
 ·intro M1 e σ a1 w1 hm1 hs1 hq
  obtain ⟨env, rfl, hx⟩ := hq
  have h1 := hx.run X M1 a1 w1 ⟨hs1.good, hs1.size, hs1.defs, hs1.env⟩
  have h2 := wK (fun _ _ _ hp => vB hm1 (fun _ _ h => h) hp) _ _ _ h1
  have h3 := any_tail (l.drop m) m (fullB l m) (fun j => by simp [List.getElem?_drop]) (by rw [List.length_drop]; exact htail) a1 w1 h2
  rwa [List.length_drop] at h3
 ·intro hN M1 e a1 w1 hm1 hs1
  exact ⟨M1, ⟨[], [], mk, n⟩, hm1, ⟨hs1.good, hs1.size, hs1.defs, fun _ _ h => by cases h⟩, hp hN []⟩
variable {kp : Ent → Prop} {F : Env → List Ent → Prop} {f : Nat} {L : Array Bool} {env : Env} {σ : List Ent} {o o2 o3 : Oper} {i j k : Nat} {ef : List Nat}
theorem drp_val (hn : nextV ef (rdyGo L.toList ops.toList 0) = some i) (ho : ops[i]? = some o) (hf : Region.free .any ops L i = true) (h : DRV P ro kp ops o env σ fun env σ => DRP P ro ch N kp ef ops F f (L.setIfInBounds i true) env σ) : DRP P ro ch N kp ef ops F (f + 1) L env σ := by
 obtain ⟨v, hy, hk⟩ := h.run
 refine ⟨anyP_first (AddsK.refl) (fun _ _ _ => AddsK.trans) ho f L _ _ (Region.free_spec ho hf) (by rw [rdy_eq]; exact nextV_mem hn) hy ?_⟩
 rw [putF_lk]; exact hk.run
theorem stepP_of (hs : DPS P ro ch N kp o env σ fun env σ => DRP P ro ch N kp ef ops F f (L.setIfInBounds i true) env σ) (ho : ops[i]? = some o) : stepP P ro ch N (AddsK kp) ops i (anyP P ro ch N (AddsK kp) ops (fun e σ => ∃ env, lk env = e ∧ F env σ) f (L.setIfInBounds i true)) (lk env) σ := by
 obtain ⟨hg, R, hR, hk⟩ := hs.run
 unfold stepP
 simp only [ho]
 exact .inr ⟨gF_none hg, .inr ⟨R, gopFP_iff hR, fun v σ' hr => ⟨(hk v σ' hr).1, by rw [putF_lk]; exact (hk v σ' hr).2.run⟩⟩⟩
theorem drp_nil (hr : rdyGo L.toList ops.toList 0 = []) (h : F env σ) : DRP P ro ch N kp ef ops F f L env σ := by
 rw [← rdy_eq] at hr
 refine ⟨?_⟩
 cases f with
 | zero => exact ⟨hr, _, rfl, h⟩
 | succ f => exact ⟨fun _ => ⟨_, rfl, h⟩, fun i hi => by rw [hr] at hi; cases hi⟩
theorem drp_one (hr : rdyGo L.toList ops.toList 0 = [i]) (ho : ops[i]? = some o) (h : DPS P ro ch N kp o env σ fun env σ => DRP P ro ch N kp ef ops F f (L.setIfInBounds i true) env σ) : DRP P ro ch N kp ef ops F (f + 1) L env σ := by
 rw [← rdy_eq] at hr
 refine ⟨fun h0 => (by rw [hr] at h0; cases h0), fun x hx => ?_⟩
 rw [hr, List.mem_singleton] at hx
 subst hx
 exact stepP_of h ho
variable {K : Env → List Ent → Prop}
theorem dps_of (h : DRS P ro kp o env σ K) : DPS P ro ch N kp o env σ K := by
 obtain ⟨h1, R, h2, h3⟩ := h.run
 exact ⟨h1, R, gp_of h2, h3⟩
theorem dps_eff {R : AV → List Ent → Prop} {d : Nat} (hgd : o.guard = none) (hd : o.dst = some d) (hg : GOpP P ro ch N o env σ R) (h : ∀ v σ', R v σ' → AddsK kp σ σ' ∧ K ((d, v) :: env) σ') : DPS P ro ch N kp o env σ K :=
 ⟨hgd, R, hg, fun v σ' hr => ⟨(h v σ' hr).1, by rw [put_some hd]; exact (h v σ' hr).2⟩⟩
end
section
variable {P : Program} {ro : Option Nat} {ch : List PanicEntry} {N : Prop} {env : Env} {σ : List Ent}
variable {dst : Option Tmp} {ty : TypeId} {pos : String} {after : Array Edge} {guard : Option (Nat × Bool)}
def concB (P : Program) (t : TypeId) : Bool := match P.underlying t with
 | some (.interface _) => false
 | some _ => true
 | none => false
theorem g_iface {t : TypeId} {x : Operand} {k : IntKind} {a : Int} (ht : concB P t = true) (hx : xP env x = some (.int k a)) : GOp P ro ⟨dst, .makeInterface t x, ty, pos, after, guard⟩ env σ (Is (.raw (.iface t (.int k a))) σ) :=
 xZ _ (by intro c h; cases h) fun X M e w hg ho => by
  have h1 := ho x (by simp [Op.operands]) _ hx
  simp only [VRel] at h1
  refine ⟨.iface t (.int k a), by simp [VRel], ?_⟩
  unfold concB at ht
  split at ht
  ·cases ht
  ·rename_i d hd hne
   simp only [execOp, h1, Instr.makeInterface, Sem.run_bind, run_underlying hne]
   cases d <;> first | exact (hd _ rfl).elim | rfl
  ·cases ht
theorem gp_panic {x : Operand} {t : TypeId} {v : Value} (hx : xP env x = some (.raw (.iface t v))) (hc : ch = [{ v := .iface t v, recovered := false }]) (hN : N) (R : AV → List Ent → Prop) : GOpP P ro ch N ⟨dst, .panic x, ty, pos, after, guard⟩ env σ R :=
 ⟨fun X M a w hg ho K Qx hK hP => by
  have h1 := ho x (by simp [Op.operands]) _ hx
  simp only [VRel] at h1
  refine ⟨fun f _ => uB f ro, ?_⟩
  rw [Oper.semAt_eq _ _ _ (by intro c h; cases h)]
  have hrun : (execOp a.eval (⟨dst, .panic x, ty, pos, after, guard⟩ : Oper)).run P w = .halt (.panic (.iface t v)) w := by
   simp only [execOp, h1, Sem.run_bind, Instr.panic, goPanic]
   rfl
  rw [hrun]
  subst hc
  exact hP hN M w (Mem.le_refl M) (hg.sub (List.nil_sublist _))⟩
theorem g_assert {t xt : TypeId} {x : Operand} {k : IntKind} {a : Int} (ht : concB P t = true) (hx : xP env x = some (.raw (.iface t (.int k a)))) : GOp P ro ⟨dst, .typeAssert x xt t false, ty, pos, after, guard⟩ env σ (Is (.int k a) σ) :=
 xZ _ (by intro c h; cases h) fun X M e w hg ho => by
  have h1 := ho x (by simp [Op.operands]) _ hx
  simp only [VRel] at h1
  refine ⟨.int k a, by simp [VRel], ?_⟩
  unfold concB at ht
  split at ht
  ·cases ht
  ·rename_i d hd hne
   simp only [execOp, h1, Instr.typeAssert, Sem.run_bind, run_underlying hne]
   cases d <;> first | exact (hd _ rfl).elim | (simp; done)
  ·cases ht
end
section
variable {P : Program} {ro : Option Nat} {env : Env} {σ : List Ent}
variable {dst : Option Tmp} {ty : TypeId} {pos : String} {after : Array Edge} {guard : Option (Nat × Bool)}
abbrev bcl (n : Nat) : List AV := [.int .u8 (n : Int)]
def pZ (l : List Nat) : ByteArray := strOfNums (l.map fun n : Nat => (n : Int))
theorem bstr_size (l : List Nat) : (pZ l).size = l.length := by unfold pZ; rw [strOfNums_size, List.length_map]
theorem cellq_of_mem {X : Fx} {M : Mem} {w : World} {b i : Nat} {v : Value} (hg : Good X M σ w) (h : M.cell b i = some v) : w.cell? ⟨b, i, none⟩ = some v := by
 unfold Mem.cell at h
 split at h
 ·rename_i c t k hb
  have h1 := hg.mem b _ hb
  simp [World.cell?, h1, h]
 ·cases h
theorem g_bytesStr {s t e : TypeId} {x : Operand} {L : List Nat} (hs : P.underlying s = some (.slice e)) (he : P.underlying e = some (.int .u8)) (hd : P.underlying t = some .string) (hx : xP env x = some (.dl 1 (L.map bcl))) :
  GOp P ro ⟨dst, .convert s t x, ty, pos, after, guard⟩ env σ (Is (.str (pZ L)) σ) :=
 xZ _ (by intro c h; cases h) fun X M en w hg ho => by
  have h1 := ho x (by simp [Op.operands]) _ hx
  simp only [VRel] at h1
  obtain ⟨a, cap, hv, h2, h3, h4, h5⟩ := h1
  refine ⟨.string (pZ L), by simp [VRel], ?_⟩
  have key : (convert s t (.slice a L.length cap)).run P w = .ok (.string (pZ L)) w := by
   rcases h5 with h5 | ⟨b, off, rfl, hr⟩
   ·have hL : L = [] := by simpa using h5
    subst hL
    cases a with
    | none =>
     rw [run_convert_bytes_string w s t e none _ cap hs he hd, show pZ [] = ByteArray.empty from rfl]
     simp [Conv.bytesToString]
    | some ad =>
     rw [run_convert_bytes_string w s t e (some ad) _ cap hs he hd]
     have := run_bytesToString (P := P) w ad 0 cap [] (by have := run_loadCells_list (P := P) w ad [] (by simp); simpa using this)
     rw [show pZ [] = ByteArray.empty from rfl]
     exact this
   ·refine run_convert_bytes_arg (P := P) w s e hs he b off L.length cap (L.map fun n : Nat => (n : Int)) (by simp) (fun i hi => ?_) t hd
    have hg1 := hr.get (sz := 1) h4 (show (L.map bcl)[i]? = some (bcl L[i]) by rw [List.getElem?_map, List.getElem?_eq_getElem hi]; rfl)
    simp only [CRel, VRel] at hg1
    obtain ⟨⟨v, k1, rfl⟩, _⟩ := hg1
    rw [Nat.mul_one] at k1
    have := cellq_of_mem hg k1
    rw [this, List.getD_eq_getElem?_getD, List.getElem?_map, List.getElem?_eq_getElem hi]
    rfl
  simp only [execOp, hv, List.length_map, Sem.run_bind, key]
  rfl
theorem append_str {X : Fx} {M : Mem} {w : World} {t u e : TypeId} {v : Value} {l : List (List AV)} {xs : List Value} (ht : appOf P t = some (e, 1, 1)) (hz : (P.info? e).bind (·.zero) = some (.int .u8 0)) (hu : P.underlying u = some .string) (hown : w.ownsRow 0 e 1 v l.length xs) (hr : VRels M l.flatten xs) (hs : ∀ x ∈ l, x.length = 1)
  (L : List Nat) (hL : ∀ x ∈ L, x < 256) (hb : l.length + L.length ≤ 140737488355328) (ty' : TypeId) :
  ∃ v' w', (Builtin.append_ #[t, u] ty' #[v, .string (pZ L)]).run P w = .ok v' w' ∧ (Ent.row v' e 1 (l ++ L.map bcl)).at M w' ∧ w.grownBy w' v.ownBlock ∧ (v'.ownBlock = v.ownBlock ∨ ∃ b, v'.ownBlock = some b ∧ w.heap.size ≤ b) := by
 obtain ⟨hue, i, z, hi, hz0, hsz, hby, hzl, h0, hb0⟩ := appOf_spec ht
 have hzz : z = .int .u8 0 := by rw [hi] at hz; simp only [Option.bind_some] at hz; rw [hz0] at hz; exact Option.some.inj hz
 subst hzz
 have hsl := bstr_size L
 have hcells : Lib.strCells (pZ L) = L.map (fun n : Nat => Value.int .u8 (n : Int)) := by
  unfold Lib.strCells pZ
  rw [strOfNums_data]
  simp only [List.map_map]
  refine List.map_congr_left fun x hx => ?_
  have := hL x hx
  simp
  omega
 have hrel : VRels M (L.map bcl).flatten (Lib.strCells (pZ L)) := by
  rw [hcells]
  clear hcells hsl hb hL
  induction L with
  | nil => simp [VRels]
  | cons x L ih => simp only [List.map_cons, List.flatten_cons, List.cons_append, List.nil_append, VRels]; exact ⟨_, _, rfl, by simp [VRel], ih⟩
 have h63 : l.length + (pZ L).size ≤ maxLen := by rw [hsl]; unfold maxLen; omega
 obtain ⟨v', w', hrun, hown', hgr, _⟩ := Lib.run_append_own_string (P := P) w 0 t u ty' e i hue hu hi hz0 hsz hby v l.length xs hown (pZ L) h63 (by rw [hsl]; omega) (Nat.zero_le _)
 refine ⟨v', w', hrun, ⟨xs ++ Lib.strCells (pZ L), by rw [hsl] at hown'; simpa using hown', by rw [List.flatten_append]; exact hr.append hrel, fun x hx => ?_⟩, hgr, ?_⟩
 ·rcases List.mem_append.1 hx with hx | hx
  ·exact hs x hx
  ·obtain ⟨n, _, rfl⟩ := List.mem_map.1 hx; rfl
 ·clear hown' hgr
  rcases hown.2 with ⟨rfl, hn0⟩ | ⟨g2, cap2, cur2, rfl, hbg, hgg, hnc, hcm, hcs, htk⟩
  ·have hx0 : xs = [] := List.eq_nil_of_length_eq_zero (by have := hown.1; rw [hn0] at this; simpa using this)
   subst hx0
   rw [hn0] at h63
   obtain ⟨v2, w2, hrun2, hown2, _, _⟩ := Lib.run_append_own_string (P := P) w w.heap.size t u ty' e i hue hu hi hz0 hsz hby nilS 0 [] (World.ownsRow_nil w _ e 1) (pZ L) h63 (by rw [hsl]; omega) (Nat.le_refl _)
   rw [hrun2] at hrun
   cases hrun
   rcases hown2.2 with ⟨rfl, _⟩ | ⟨g, cap', cur, rfl, hge, _⟩
   ·exact .inl rfl
   ·exact .inr ⟨g, rfl, hge⟩
  ·by_cases hroom : l.length + (pZ L).size ≤ cap2
   ·have hr2 := Lib.run_append_room_string (P := P) w t u ty' e i hue hu hi hsz g2 l.length cap2 cur2 hgg (pZ L) hroom (by rw [hcs]; omega)
    rw [hr2] at hrun
    cases hrun
    exact .inl rfl
   ·have holds : ∀ (j : Nat) (u : Value), xs[j]? = some u → w.cell? ((⟨g2, 0, none⟩ : Addr).add j) = some u := hown.cells (g := g2) rfl
    have hr2 := Lib.run_append_grow_string (P := P) w t u ty' e i (.int .u8 0) hue hu hi hz0 ⟨g2, 0, none⟩ l.length cap2 xs (by rw [hsz]; exact hown.1) holds (pZ L) (by omega) (by rw [hsl]; omega) (by rw [hby]; exact growslice_fits (by omega) (by rw [hsl]; omega))
    rw [hr2] at hrun
    cases hrun
    exact .inr ⟨_, rfl, by simp⟩
theorem g_appendStr {t u e : TypeId} {s x : Operand} {v : Value} {l : List (List AV)} {L : List Nat} {F : Value → List Ent} (ht : appOf P t = some (e, 1, 1)) (hz : (P.info? e).bind (·.zero) = some (.int .u8 0)) (hu : P.underlying u = some .string) (hs : xP env s = some (.slv v)) (hx : xP env x = some (.str (pZ L))) (hup : ∀ v', Upd σ (.row v e 1 l) (.row v' e 1 (l ++ L.map bcl)) (F v'))
  (hL : ∀ x ∈ L, x < 256) (hb : l.length + L.length ≤ 140737488355328) :
  GOp P ro ⟨dst, .call { callee := .builtin .append, args := #[s, x], argTypes := #[t, u] }, ty, pos, after, guard⟩ env σ (Grew F) :=
 tW (by intro c h; cases h) fun X M a w hg ho => by
  have h1 := ho s (by simp [Op.operands, Call.operands]) _ hs
  have h2 := ho x (by simp [Op.operands, Call.operands]) _ hx
  simp only [VRel] at h1 h2
  obtain ⟨h1, _⟩ := h1
  obtain ⟨xs, hown, hr, hsl⟩ := hg.ent _ (hup v).mem
  obtain ⟨v', w', hrun, hent, hgr, hblk⟩ := append_str (P := P) (X := X) ht hz hu hown hr hsl L hL hb ty
  refine ⟨M, v', w', .slv v', F v', Mem.le_refl M, hg.upd (hup v') hgr.os hgr.tape hgr.output (fun k hk hne => hgr.block k hk (fun e => hne e.symm)) hent hblk, ⟨rfl, isSl_row hent⟩, .mk v', .inl ?_⟩
  simp [execOp, resolve, invoke, builtin, Sem.run_bind, h1, h2, hrun]
end
section
variable {P : Program}
def endsA (P : Program) (fn : Func) (X : Fx) (M : Mem) (Q : AV → List Ent → Prop) : Exit → Act → World → Prop :=
 bodyPostM (uP none) 0 P fn (fun e w' => ∃ M' σ' r v, M.le M' ∧ Good X M' σ' w' ∧ VRel M' r v ∧ e = .returned v ∧ Q r σ')
structure EXD (P : Program) (fn : Func) (c : Code) (Q : AV → List Ent → Prop) (s : St) : Prop where
 run : ∀ X M0 M a w, X.dt = [] → M0.le M → Sim X M s a w → c.wpIn (uP none) 0 P (endsA P fn X M0 Q) a w
structure EXDL (P : Program) (fn : Func) (ops : Array Oper) (l : List Oper) (y : Code) (Q : AV → List Ent → Prop) (s : St) : Prop where
 run : ∀ X M0 M a w, X.dt = [] → M0.le M → Sim X M s a w → wpListIn (uP none) 0 P ops (Exit.then (fun a w => y.wpIn (uP none) 0 P (endsA P fn X M0 Q) a w) (endsA P fn X M0 Q)) l a w
def onlyA (p : St → Prop) : Exit → St → Prop
 | .normal, s => p s
 | _, _ => False
theorem exd_seq {fn : Func} {x y : Code} {Q : AV → List Ent → Prop} {s : St} (h : EX P none x (onlyA (EXD P fn y Q)) s) : EXD P fn (.seq x y) Q s := by
 refine ⟨fun X M0 M a w hX hm0 hs => wpIn_seq (Go.wpIn_mono (h.run X M a w hs) ?_)⟩
 rintro e a' w' ⟨M', s', hm, hs', hq⟩
 cases e with
 | normal => exact hq.run X M0 M' a' w' hX (Mem.le_trans hm0 hm) hs'
 | exit id => exact hq.elim
 | goto l => exact hq.elim
 | ret => exact hq.elim
 | panic ch => exact hq.elim
 | outgrown => exact hq.elim
theorem exd_region {fn : Func} {id : Nat} {l : List Oper} {y : Code} {Q : AV → List Ent → Prop} {s : St} (h : EXDL P fn l.toArray l y Q s) : EXD P fn (.seq (.region id l.toArray false) y) Q s :=
 ⟨fun X M0 M a w hX hm0 hs => wpIn_seq (wpIn_region_lit (h.run X M0 M a w hX hm0 hs))⟩
theorem exdl_op {fn : Func} {ops : Array Oper} {o : Oper} {rest : List Oper} {y : Code} {Q : AV → List Ent → Prop} {R : AV → List Ent → Prop} {s : St} (hgd : o.guard = none) (hd : uN o.dst s.n = true) (hg : GOp P none o s.env s.σ R)
  (h : ∀ v σ', R v σ' → EXDL P fn ops rest y Q { s with env := put o.dst v s.env, σ := σ' }) : EXDL P fn ops (o :: rest) y Q s := by
 refine ⟨fun X M0 M a w hX hm0 hs => ?_⟩
 unfold wpListIn
 rw [if_pos (by simp [Region.wanted, hgd])]
 refine hg.run X M a w hs.good (hs.env.op o) _ _ ?_
 intro M' u w' v σ' hm hgd hv hR
 exact (h v σ' hR).run X M0 M' _ w' hX (Mem.le_trans hm0 hm) (hs.put hm hgd hd hv)
theorem leaves_marks_tl {X : Fx} {M : Mem} {fn : Func} {tmps : Array Value} {R : Ending → World → Prop} {tl : List Deferred} {ds : List Nat} {σ σ1 : List Ent} (h : Marks ds σ σ1) : ∀ {w : World}, Good X M σ w → (∀ w', Good X M σ1 w' → LeavesInM (uP none) 0 P fn tmps R tl .returning w') →
  LeavesInM (uP none) 0 P fn tmps R (marksD ds ++ tl) .returning w := by
 induction h with
 | nil => intro w hg hr; exact hr w hg
 | @cons D ds σ σ1 σ2 hrem _ ih =>
  intro w hg hr
  obtain ⟨a, c, rfl, rfl⟩ := hrem.split
  have hD : w.heap[D]? = some (.deferred (some [])) := hg.ent (.obj D (.deferred (some []))) (by simp)
  refine ⟨by simp, .inl ⟨D, w.putObj D (.deferred none), rfl, run_takeDeferred hD, ih ?_ hr⟩⟩
  exact hg.rem hrem rfl rfl rfl (fun k hk => World.putObj_heap_other (fun e => hk (by simp [Ent.block, e])))
def Idle (P : Program) (f : FuncId) (k : Nat) : Prop := ∀ (ws : Array Value) (w : World), ws.size = k → CallsDIn (uP none) 0 P f ws .returning w fun e u' w' => (∃ v, e = .returned v) ∧ u' = .returning ∧ w' = w
theorem scall_ofD {f : FuncId} {fn : Func} {c : Code} {args : List AV} {σ : List Ent} {Q : AV → List Ent → Prop} (hf : P.funcs[f]? = some fn) (hb : fn.body = some c) (hn : args.length ≤ fn.ntmps)
  (h : EXD P fn c Q ⟨pR 0 args, σ, [], fn.ntmps⟩) : SCall P f args σ Q := by
 refine ⟨fun X0 M w vs hg0 ha => ?_⟩
 obtain ⟨X, hX⟩ : ∃ X : Fx, X = { X0 with dt := [] } := ⟨_, rfl⟩
 have hg : Good X M σ w := hX ▸ hg0.dt []
 have back : ∀ {M σ w}, Good X M σ w → Good X0 M σ w := fun h => (hX ▸ h : Good { X0 with dt := [] } _ _ _).undt
 have hl := ha.length
 simp only [Array.length_toList] at hl
 refine callsIn_wide (n := 0).1 ((callsIn_of_wp_marks (R := fun e w' => ∃ M' σ' r v, M.le M' ∧ Good X M' σ' w' ∧ VRel M' r v ∧ e = .returned v ∧ Q r σ') hf hb trivial ?_).mono ?_)
 ·have hs : Sim X M ⟨pR 0 args, σ, [], fn.ntmps⟩ { tmps := vs ++ Array.replicate (fn.ntmps - vs.size) undef, defers := [] } w := by
   refine ⟨hg, by simp; omega, by rw [hX]; rfl, fun t v hv => ?_⟩
   obtain ⟨_, h2⟩ := argsEnv_get _ _ _ _ hv
   obtain ⟨u, h3, h4⟩ := ha.get h2
   refine ⟨u, ?_, h4⟩
   simp only [Nat.sub_zero, Array.getElem?_toList] at h3
   have hlt : t < vs.size := by rcases Nat.lt_or_ge t vs.size with h | h; exact h; rw [Array.getElem?_eq_none h] at h3; cases h3
   rw [Array.getElem?_append_left hlt]; exact h3
  exact h.run X M M _ w (by rw [hX]) (Mem.le_refl M) hs
 ·rintro e w' ⟨M', σ', r, v, h1, h2, h3⟩
  exact ⟨M', σ', r, v, h1, back h2, h3⟩
end
abbrev rdE (b : Nat) (D : List Nat) : Ent := .cells b [bys D] 185
abbrev errV : Value := .iface 27 (.int .i64 10)
abbrev chE : List PanicEntry := [{ v := errV, recovered := false }]
/-- What is said of an entry's change, wherever it stands. -/
theorem scall_updI {P : Program} {f : FuncId} {args : List AV} {σ σ' : List Ent} {e e' : Ent} {r : AV} (h : ∀ σ0, SCall P f args (e :: σ0) (Is r (e' :: σ0))) (hu : Upd σ e e' σ') : SCall P f args σ (Is r σ') := by
 obtain ⟨a, c, h1, h2⟩ := hu.split
 have hp : σ.Perm (e :: (a ++ c)) := by rw [h1]; exact List.perm_middle
 refine ⟨fun X M w vs hg ha => ?_⟩
 refine Calls.mono ((h (a ++ c)).run X M w vs (hg.perm hp) ha) ?_
 rintro e0 w' ⟨M', τ, r', v, hm, hg', hr, he, hR⟩
 cases hR
 refine ⟨M', σ', r, v, hm, hg'.perm ?_, hr, he, .mk⟩
 rw [h2]
 exact List.perm_middle.symm
theorem g_slice3M {ro : Option Nat} {P : Program} {dst : Option Tmp} {ty : TypeId} {pos : String} {after : Array Edge} {guard : Option (Nat × Bool)} {env : Env} {σ : List Ent} {α : Type} {f : α → List AV} {t e : TypeId} {sz k : Nat} {x hi mx : Operand} {L : List α} {hj mj : Int} (ht : tB P t = some (e, sz)) (hx : xP env x = some (.dl sz (L.map f))) (hhi : tA env 0 (some hi) = some hj) (hmx : tA env 0 (some mx) = some mj) (hh : hj = (k : Int)) (hm : mj = (k : Int)) (hk : k ≤ L.length) :
  GOp P ro ⟨dst, .slice t x none (some hi) (some mx), ty, pos, after, guard⟩ env σ (Is (.dl sz ((L.take k).map f)) σ) := by
 rw [List.map_take]
 exact g_slice3D ht hx hhi hmx hh hm (by rw [List.length_map]; exact hk)
theorem want_g (p : AV) (q : Bool) (σ : List Ent) : PCall Tryz.prog chE (q = false) 148 [p, .bool q] σ (fun r τ => q = true ∧ r = .tup [] ∧ τ = σ) := by
 refine pcall_of Tryz.func148 rfl (by simp) ?_
 cases q
 ·refine zY (zZ ?_); refine zR ?_; refine qY ?_; intro _ _; refine zX (yN ?_ ?_) <;> (intro h hp k; (try subst k); (try simp only [q_n] at hp); try first | omega | (cases hp; done));
  refine zZ ?_; apply zU; rfl; rfl; rfl; (exact g_iface rfl rfl); refine exl_pcore (R := fun _ _ => False) (fun _ _ _ _ => rfl) rfl (N := False = False) (gp_panic rfl rfl rfl _) (fun _ => And.intro rfl (And.intro rfl rfl)) (fun _ _ h => h.elim)
  all_goals ((repeat (rename BV _ _ => k; first | cases k | clear k)); try exact zN)
 ·refine zY (zZ ?_); refine zR ?_; refine qY ?_; intro _ _; refine zX (yN ?_ ?_) <;> (intro h hp k; (try subst k); (try simp only [q_n] at hp); try first | omega | (cases hp; done));
  refine zW ?_; simp only [zA, zF, zE, zH, yK, ↓reduceIte, Nat.reduceEqDiff]; rotate_left
  all_goals ((repeat (rename BV _ _ => k; first | cases k | clear k)); try exact zN)
  refine xX (σ3 := σ) ?_
  exact zJ ⟨trivial, rfl, rfl⟩
theorem take_g (b n : Nat) (D : List Nat) (hD : D.length ≤ 100000) :
  PCall Tryz.prog chE (D.length < n) 158 [.ptr b 0, .int .i64 n] [rdE b D] (fun r τ => ∃ e', (n ≤ D.length ∧ r = bys (D.take n) ∧ e' = rdE b (D.drop n)) ∧ τ = [e']) := by
 refine pcall_of Tryz.func158 rfl (by simp) ?_
 refine zY (zZ ?_); refine zP ?_; refine zX (zY (zZ ?_)); (iterate 3 refine zR ?_); apply zU; rfl; rfl; rfl; (apply zK <;> rfl); refine yG ?_; refine wH ?_; refine xY ?_; intro _ _; rotate_left
 all_goals ((repeat (rename BV _ _ => k; first | cases k | clear k)); try exact zN)
 refine exl_p rfl rfl rfl (uD rfl rfl (zB (by kernel_rfl)) (want_g _ _ _)) (fun hN => And.intro rfl (And.intro rfl (by have := of_decide_eq_false hN; omega))) ?_
 rintro _ _ ⟨hq, rfl, rfl⟩
 have hn : n ≤ D.length := by simpa using hq
 refine zX (zY (zZ ?_)); refine zR ?_; apply zU; rfl; rfl; rfl; (apply zK <;> rfl); refine yG ?_; (iterate 2 refine zR ?_); apply zU; rfl; rfl; rfl; (exact g_slice3M rfl rfl rfl rfl rfl rfl hn); refine zP ?_; refine zX (zY (zZ ?_)); (iterate 2 refine zR ?_); apply zU; rfl; rfl; rfl; (apply zK <;> rfl); refine yG ?_; refine zR ?_; apply zU; rfl; rfl; rfl; (apply vD; rfl; rfl; rfl; (rfl); omega); apply zU; rfl; rfl; rfl; (apply zK <;> rfl); refine uZ ?_; refine yR ?_; refine zX (zY (zZ ?_)); refine zR ?_; refine zP ?_; refine zX (zV ?_); rotate_left
 all_goals ((repeat (rename BV _ _ => k; first | cases k | clear k)); try exact zN)
 refine xX (σ3 := [rdE b (D.drop n)]) ?_
 exact zJ ⟨_, ⟨hn, rfl, rfl⟩, rfl⟩
theorem take1_g {b : Nat} {D : List Nat} (hD : D.length ≤ 100000) {σ : List Ent} {F : Ent → List Ent} (hu : ∀ e', Upd σ (rdE b D) e' (F e')) :
  PCall Tryz.prog chE (D = []) 158 [.ptr b 0, .int .i64 1] σ (fun r τ => ∃ x D', D = x :: D' ∧ r = bys [x] ∧ τ = F (rdE b D')) :=
 (((take_g b 1 D hD).at hu).imp (fun h => List.eq_nil_of_length_eq_zero (by omega))).mono fun r τ ⟨e', ⟨h1, h2, h3⟩, h4⟩ => by
   cases D with
   | nil => simp at h1
   | cons x D' => exact ⟨x, D', rfl, h2, by rw [h4, h3]; rfl⟩
theorem want_at {p : AV} {q : Bool} {σ : List Ent} : PCall Tryz.prog chE (q = false) 148 [p, .bool q] σ (fun r τ => q = true ∧ r = .tup [] ∧ τ = σ) := want_g p q σ
theorem shl_fits {c i : Nat} (hc : c < 256) (h : i < 9 ∨ c ≤ 1) (hi : i ≤ 9) : c % 128 * 2 ^ (7 * i) < 18446744073709551616 := by
 rcases h with h | h
 ·have h1 : 2 ^ (7 * i) ≤ 2 ^ 56 := Nat.pow_le_pow_right (by omega) (by omega)
  have h2 : c % 128 * 2 ^ (7 * i) ≤ 127 * 2 ^ 56 := Nat.mul_le_mul (by omega) h1
  omega
 ·have h1 : 2 ^ (7 * i) ≤ 2 ^ 63 := Nat.pow_le_pow_right (by omega) (by omega)
  have h2 : c % 128 * 2 ^ (7 * i) ≤ 1 * 2 ^ 63 := Nat.mul_le_mul (by omega) h1
  omega
theorem number_g (b : Nat) (D : List Nat) (hB : ∀ x ∈ D, x < 256) (hD : D.length ≤ 1000) :
  PCall Tryz.prog chE (vU 0 D = none) 160 [.ptr b 0] [rdE b D] (fun r τ => ∃ e', (∃ u D', vU 0 D = some (u, D') ∧ r = .int .u64 u ∧ e' = rdE b D') ∧ τ = [e']) := by
 refine pcall_of Tryz.func160 rfl (by simp) ?_
 refine zY (zZ ?_); refine zP ?_; refine zX (zY (zZ ?_)); refine zP ?_; refine zX (zT ?_); rotate_left
 all_goals ((repeat (rename BV _ _ => k; first | cases k | clear k)); try exact zN)
 refine yD (fun (z : Nat × List Nat × Nat) => (⟨[(0, .ptr b 0), (2, .int .u64 z.2.2), (3, .int .i64 z.1)], [rdE b z.2.1], [], Tryz.f160.ntmps⟩ : St)) (fun z => (z.1 ≤ 9 ∧ z.2.2 < 2 ^ (7 * z.1) ∧ z.2.1.length ≤ 1000 ∧ ∀ x ∈ z.2.1, x < 256) ∧ vU 0 D = (vU z.1 z.2.1).map fun p => (z.2.2 + p.1 * 2 ^ (7 * z.1), p.2)) (fun z => z.2.1.length) (0, D, 0) (⟨⟨by omega, by simp, hD, hB⟩, by simp only [Nat.mul_zero, Nat.pow_zero, Nat.mul_one, Nat.zero_add]; cases vU 0 D <;> rfl⟩) (St.le_of (by repeat (first | exact trivial | refine ⟨rfl, ?_⟩)) (by repeat (first | exact q_r | apply q_q | apply q_k))) ?_
 intro z hI
 obtain ⟨i, E, r⟩ := z
 obtain ⟨⟨hI1, hI2, hI3, hI4⟩, hI5⟩ := hI
 dsimp only at hI1 hI2 hI3 hI4 hI5 ⊢
 clear hB hD
 refine zY (zT ?_); refine zY (zZ ?_); refine zR ?_; rotate_left
 all_goals ((repeat (rename BV _ _ => k; first | cases k | clear k)); try exact zN)
 refine exl_p rfl rfl rfl (uD rfl rfl (zB (by kernel_rfl)) (take1_g (D := E) (by omega) (fun e' => by exact (by (repeat first | exact Upd.here | apply Upd.there))))) (fun hN => And.intro rfl (And.intro rfl (by rw [hI5, hN]; rfl))) ?_
 rintro _ _ ⟨c, E', rfl, rfl, rfl⟩
 have hc : c < 256 := hI4 c (by simp)
 have hE' : ∀ x ∈ E', x < 256 := fun x hx => hI4 x (by simp [hx])
 rw [List.length_cons] at hI3
 have hx : ([c].map b8C)[0]? = some (b8C c) := rfl
 clear hI4
 obtain ⟨p, hp2⟩ : ∃ p, 2 ^ (7 * i) = p := ⟨_, rfl⟩
 have hp3 : 2 ^ (7 * (i + 1)) = 128 * p := by rw [← hp2, show 7 * (i + 1) = 7 + 7 * i by omega, Nat.pow_add]
 obtain ⟨X, hX⟩ : ∃ X, c % 128 * 2 ^ (7 * i) = X := ⟨_, rfl⟩
 have hXl : (i < 9 ∨ c ≤ 1) → X < 18446744073709551616 := fun h => hX ▸ shl_fits hc h hI1
 have hXle : X ≤ 127 * p := by rw [← hX, hp2]; exact Nat.mul_le_mul (by omega) (Nat.le_refl _)
 have hor : r ||| X = r + X := by
  have h1 := or_add (c := c % 128) hI2
  rw [Nat.shiftLeft_eq, hX] at h1
  exact h1
 have hrl : r < 18446744073709551616 := by
  have h1 : 2 ^ (7 * i) ≤ 2 ^ 63 := Nat.pow_le_pow_right (by omega) (by omega)
  omega
 have hbad : ¬ ((i = 0 ∨ c ≠ 0) ∧ (i < 9 ∨ c ≤ 1)) → vU 0 D = none := fun h => by rw [hI5, vU, if_neg h]; rfl
 have hfin : c < 128 → (i = 0 ∨ c ≠ 0) → (i < 9 ∨ c ≤ 1) → vU 0 D = some (r + X, E') := fun h1 h2 h3 => by
  rw [hI5, vU, if_pos ⟨h2, h3⟩, if_pos h1, ← hX, Nat.mod_eq_of_lt h1]; rfl
 have hnext : ¬ c < 128 → (i = 0 ∨ c ≠ 0) → (i < 9 ∨ c ≤ 1) → vU 0 D = (vU (i + 1) E').map fun q => (r + X + q.1 * 2 ^ (7 * (i + 1)), q.2) := fun h1 h2 h3 => by
  rw [hI5, vU, if_pos ⟨h2, h3⟩, if_neg h1, Option.map_map]
  congr 1
  funext q
  show (r + (c - 128 + 128 * q.1) * 2 ^ (7 * i), q.2) = _
  rw [hp3, hp2, Nat.add_mul, ← hX, hp2, show c % 128 = c - 128 by omega, Nat.add_assoc, show 128 * q.1 * p = q.1 * (128 * p) by rw [Nat.mul_comm 128 q.1, Nat.mul_assoc]]
 have h127 : (127 : Int) = ((127 : Nat) : Int) := rfl
 have h7i : (7 : Int) * (i : Int) = ((7 * i : Nat) : Int) := by omega
 have hand : c &&& 127 = c % 128 := Nat.and_two_pow_sub_one_eq_mod (n := 7) c
 have hcv : IntKind.u64.wrap ((c % 128 : Nat) : Int) = ((c % 128 : Nat) : Int) := tY (by omega)
 rw [hp2] at hI2
 clear hI5 hp2
 refine vG ?_; refine xLd ?_; refine zP ?_; refine zX (zY (zZ ?_)); (iterate 2 refine zR ?_); refine xY ?_; intro _ _; refine zR ?_; refine xT ?_ ?_ <;> (intro h hp k; (try subst k); (try simp only [q_n] at hp); try first | omega | (cases hp; done));
 (iterate 2 refine yC ?_); refine xF ?_; refine zR ?_; refine vN ?_; refine wT ?_; intro _ _; refine vN ?_; refine xT ?_ ?_ <;> (intro h hp k; (try subst k); (try simp only [q_n] at hp); try first | omega | (cases hp; done));
 (iterate 2 refine yC ?_); refine yPt ?_; refine xF ?_; refine exl_p rfl rfl rfl (uD rfl rfl (zB (by kernel_rfl)) want_at) (fun hN => And.intro rfl (And.intro rfl (by (cases hN; done)))) ?_; rintro _ _ ⟨hq, rfl, rfl⟩; (try cases hq); (try (rename BV _ true => hb0; have hb1 := of_decide_eq_true hb0.eq; clear hb0)); refine zX (zY (zZ ?_)); (iterate 2 refine zR ?_); apply zU; rfl; rfl; rfl; (exact g_and8 rfl rfl rfl h127 (by omega) (by omega) hand); apply zU; rfl; rfl; rfl; (exact vA rfl rfl rfl hcv); refine zR ?_; apply zU; rfl; rfl; rfl; (apply g_mul; rfl; rfl; rfl; exact ⟨by omega, by omega⟩); apply zU; rfl; rfl; rfl; (exact g_shlU rfl rfl rfl h7i (by omega) hX (hXl (by omega))); apply zU; rfl; rfl; rfl; (exact g_orU rfl rfl rfl rfl hrl (hXl (by omega)) hor); refine zP ?_; refine zX (zY (zZ ?_)); refine zR ?_; refine zD ?_ ?_ <;> (intro h hp; (try simp only [q_n] at hp); try first | omega | (cases hp; done));
 refine zY (zZ ?_); refine zR ?_; refine zP ?_; refine zX (zV ?_); simp only [yX]; rotate_left; refine zW (zZ (zR ?_)); refine vX ?_; refine zP ?_; refine zQ ?_; simp only [zA, zF, zE, zH, yK, ↓reduceIte, Nat.reduceEqDiff]; rotate_left; refine vN ?_; refine wT ?_; intro _ _; refine yB ?_; refine zR ?_; refine xT ?_ ?_ <;> (intro h hp k; (try subst k); (try simp only [q_n] at hp); try first | omega | (cases hp; done));
 refine vN ?_; refine wT ?_; intro _ _; refine vN ?_; refine xT ?_ ?_ <;> (intro h hp k; (try subst k); (try simp only [q_n] at hp); try first | omega | (cases hp; done));
 (iterate 2 refine yC ?_); refine yPt ?_; refine xF ?_; refine exl_p rfl rfl rfl (uD rfl rfl (zB (by kernel_rfl)) want_at) (fun hN => And.intro rfl (And.intro rfl (by (cases hN; done)))) ?_; rintro _ _ ⟨hq, rfl, rfl⟩; (try cases hq); (try (rename BV _ true => hb0; have hb1 := of_decide_eq_true hb0.eq; clear hb0)); refine zX (zY (zZ ?_)); (iterate 2 refine zR ?_); apply zU; rfl; rfl; rfl; (exact g_and8 rfl rfl rfl h127 (by omega) (by omega) hand); apply zU; rfl; rfl; rfl; (exact vA rfl rfl rfl hcv); refine zR ?_; apply zU; rfl; rfl; rfl; (apply g_mul; rfl; rfl; rfl; exact ⟨by omega, by omega⟩); apply zU; rfl; rfl; rfl; (exact g_shlU rfl rfl rfl h7i (by omega) hX (hXl (by omega))); apply zU; rfl; rfl; rfl; (exact g_orU rfl rfl rfl rfl hrl (hXl (by omega)) hor); refine zP ?_; refine zX (zY (zZ ?_)); refine zR ?_; refine zD ?_ ?_ <;> (intro h hp; (try simp only [q_n] at hp); try first | omega | (cases hp; done));
 refine zY (zZ ?_); refine zR ?_; refine zP ?_; refine zX (zV ?_); simp only [yX]; rotate_left; refine zW (zZ (zR ?_)); refine vX ?_; refine zP ?_; refine zQ ?_; simp only [zA, zF, zE, zH, yK, ↓reduceIte, Nat.reduceEqDiff]; rotate_left; refine vN ?_; refine wT ?_; intro _ _; refine yPf ?_; refine xF ?_; refine exl_p rfl rfl rfl (uD rfl rfl (zB (by kernel_rfl)) want_at) (fun hN => And.intro rfl (And.intro rfl (by (cases hN; (try (rename BV _ false => hb0; have hb1 := of_decide_eq_false hb0.eq; clear hb0)); exact hbad (by omega))))) ?_; rintro _ _ ⟨hq, rfl, rfl⟩; (try cases hq); (try (rename BV _ true => hb0; have hb1 := of_decide_eq_true hb0.eq; clear hb0)); refine zX (zY (zZ ?_)); (iterate 2 refine zR ?_); apply zU; rfl; rfl; rfl; (exact g_and8 rfl rfl rfl h127 (by omega) (by omega) hand); apply zU; rfl; rfl; rfl; (exact vA rfl rfl rfl hcv); refine zR ?_; apply zU; rfl; rfl; rfl; (apply g_mul; rfl; rfl; rfl; exact ⟨by omega, by omega⟩); apply zU; rfl; rfl; rfl; (exact g_shlU rfl rfl rfl h7i (by omega) hX (hXl (by omega))); apply zU; rfl; rfl; rfl; (exact g_orU rfl rfl rfl rfl hrl (hXl (by omega)) hor); refine zP ?_; refine zX (zY (zZ ?_)); refine zR ?_; refine zD ?_ ?_ <;> (intro h hp; (try simp only [q_n] at hp); try first | omega | (cases hp; done));
 refine zY (zZ ?_); refine zR ?_; refine zP ?_; refine zX (zV ?_); simp only [yX]; rotate_left; (iterate 3 refine yC ?_); (iterate 2 refine xSr ?_); refine yC ?_; refine yB ?_; refine exl_p rfl rfl rfl (uD rfl rfl (zB (by kernel_rfl)) want_at) (fun hN => And.intro rfl (And.intro rfl (by (cases hN; (try (rename BV _ false => hb0; have hb1 := of_decide_eq_false hb0.eq; clear hb0)); exact hbad (by omega))))) ?_; rintro _ _ ⟨hq, rfl, rfl⟩; (try cases hq); (try (rename BV _ true => hb0; have hb1 := of_decide_eq_true hb0.eq; clear hb0))
 all_goals ((repeat (rename BV _ _ => k; first | cases k | clear k)); try exact zN)
 all_goals
  by_cases hlo : c < 128
  ·(try (exfalso; omega))
   all_goals
    have hdone := hfin hlo (by omega) (by omega)
    refine xX (σ3 := [rdE b E']) ?_
    exact zJ ⟨_, ⟨_, _, hdone, rfl, rfl⟩, rfl⟩
  ·(try (exfalso; omega))
   all_goals
    have hgo := hnext hlo (by omega) (by omega)
    refine ⟨(i + 1, E', r + X), ⟨⟨by dsimp only; omega, by dsimp only; omega, by dsimp only; omega, hE'⟩, hgo⟩, by dsimp only; rw [List.length_cons]; omega, ?_⟩
    exact wW
mutual
def vtC : Vt → List AV
 | .mk k n s l => [.int .i64 k, .int .i64 n, .str (pZ s), .dl 4 (vtCs l)]
def vtCs : List Vt → List (List AV)
 | [] => []
 | t :: l => vtC t :: vtCs l
end
theorem vtCs_map : ∀ l : List Vt, vtCs l = l.map vtC
 | [] => rfl
 | t :: l => by simp only [vtCs, List.map_cons, vtCs_map l]
theorem vJ (k n : Int) (s : List Nat) (l : List Vt) : vtC (.mk k n s l) = [.int .i64 k, .int .i64 n, .str (pZ s), .dl 4 (l.map vtC)] := by simp only [vtC, vtCs_map]
theorem number_at {b : Nat} {D : List Nat} (hB : ∀ x ∈ D, x < 256) (hD : D.length ≤ 1000) {σ : List Ent} {F : Ent → List Ent} (hu : ∀ e', Upd σ (rdE b D) e' (F e')) :
  PCall Tryz.prog chE (vU 0 D = none) 160 [.ptr b 0] σ (fun r τ => ∃ u D', vU 0 D = some (u, D') ∧ r = .int .u64 u ∧ τ = F (rdE b D')) :=
 ((number_g b D hB hD).at hu).mono fun r τ ⟨e', ⟨u, D', h1, h2, h3⟩, h4⟩ => ⟨u, D', h1, h2, by rw [h4, h3]⟩
theorem length_g (b : Nat) (D : List Nat) (hB : ∀ x ∈ D, x < 256) (hD : D.length ≤ 1000) :
  PCall Tryz.prog chE (∀ u D', vU 0 D = some (u, D') → ¬ u ≤ D'.length) 161 [.ptr b 0] [rdE b D] (fun r τ => ∃ e', (∃ u D', vU 0 D = some (u, D') ∧ u ≤ D'.length ∧ r = .int .i64 u ∧ e' = rdE b D') ∧ τ = [e']) := by
 refine pcall_of Tryz.func161 rfl (by simp) ?_
 refine zY (zZ ?_); refine zP ?_; refine zX (zY (zZ ?_)); refine zR ?_; rotate_left
 all_goals ((repeat (rename BV _ _ => k; first | cases k | clear k)); try exact zN)
 refine exl_p rfl rfl rfl (uD rfl rfl (zB (by kernel_rfl)) (number_at hB hD (fun e' => by exact (by (repeat first | exact Upd.here | apply Upd.there))))) (fun hN => And.intro rfl (And.intro rfl (fun u D' h => by rw [hN] at h; cases h))) ?_
 rintro _ _ ⟨u, E, hn, rfl, rfl⟩
 have hl := numD_len hn
 have hcv : IntKind.u64.wrap ((E.length : Nat) : Int) = ((E.length : Nat) : Int) := tY (by omega)
 clear hB
 refine zP ?_; refine zX (zY (zZ ?_)); (iterate 3 refine zR ?_); apply zU; rfl; rfl; rfl; (apply zK <;> rfl); refine yG ?_; refine wH ?_; apply zU; rfl; rfl; rfl; (exact vA rfl rfl rfl hcv); refine xY ?_; intro _ _; rotate_left
 all_goals ((repeat (rename BV _ _ => k; first | cases k | clear k)); try exact zN)
 refine exl_p rfl rfl rfl (uD rfl rfl (zB (by kernel_rfl)) want_at) (fun hN => And.intro rfl (And.intro rfl (fun u' D' h => by rw [hn] at h; cases h; have := of_decide_eq_false hN; omega))) ?_
 rintro _ _ ⟨hq, rfl, rfl⟩
 have hu : u ≤ E.length := by simpa using hq
 have hci : IntKind.i64.wrap ((u : Nat) : Int) = ((u : Nat) : Int) := by rw [IntKind.wrap_i64]; omega
 refine zX (zY (zZ ?_)); refine zR ?_; apply zU; rfl; rfl; rfl; (apply wC; rfl; rfl; rfl; exact ⟨by omega, by omega⟩); refine zP ?_; refine zX (zV ?_); rotate_left
 all_goals ((repeat (rename BV _ _ => k; first | cases k | clear k)); try exact zN)
 refine xX (σ3 := [rdE b E]) ?_
 exact zJ ⟨_, ⟨u, E, hn, hu, rfl, rfl⟩, rfl⟩
theorem length_at {b : Nat} {D : List Nat} (hB : ∀ x ∈ D, x < 256) (hD : D.length ≤ 1000) {σ : List Ent} {F : Ent → List Ent} (hu : ∀ e', Upd σ (rdE b D) e' (F e')) :
  PCall Tryz.prog chE (∀ u D', vU 0 D = some (u, D') → ¬ u ≤ D'.length) 161 [.ptr b 0] σ (fun r τ => ∃ u D', vU 0 D = some (u, D') ∧ u ≤ D'.length ∧ r = .int .i64 u ∧ τ = F (rdE b D')) :=
 ((length_g b D hB hD).at hu).mono fun r τ ⟨e', ⟨u, D', h1, h2, h3, h4⟩, h5⟩ => ⟨u, D', h1, h2, h3, by rw [h5, h4]⟩
theorem g_xorM {ro : Option Nat} {P : Program} {dst : Option Tmp} {ty : TypeId} {pos : String} {after : Array Edge} {guard : Option (Nat × Bool)} {env : Env} {σ : List Ent} {x y : Operand} {t yt : TypeId} {a b : Int} {m : Nat} {q : Int} (hx : xP env x = some (.int .i64 a)) (hy : xP env y = some (.int .i64 b)) (ha : a = (m : Int)) (hb : b = -1) (h1 : m < 9223372036854775808) (hq : -(m : Int) - 1 = q) :
  GOp P ro ⟨dst, .binOp .xor t x y yt, ty, pos, after, guard⟩ env σ (Is (.int .i64 q) σ) := by
 subst ha hb hq
 refine g_bits hx hy (.inl rfl) rfl ?_
 show IntKind.i64.wrap ((BitVec.ofInt 64 (m : Int) ^^^ BitVec.ofInt 64 (-1)).toNat : Int) = _
 rw [show BitVec.ofInt 64 (-1) = BitVec.allOnes 64 by decide, BitVec.xor_allOnes, BitVec.toNat_not, ofInt_nat m h1, IntKind.wrap_i64]
 omega
theorem signed_g (n : Nat) (hn : n < 18446744073709551616) (σ : List Ent) : SCall Tryz.prog 159 [.int .u64 n] σ (Is (.int .i64 (sgn n)) σ) := by
 refine zL Tryz.func159 rfl (by simp) ?_
 have hone : (1 : Int) = ((1 : Nat) : Int) := rfl
 have h1 : IntKind.i64.wrap ((n / 2 : Nat) : Int) = ((n / 2 : Nat) : Int) := by rw [IntKind.wrap_i64]; omega
 have hz : n &&& 1 = n % 2 := Nat.and_one_is_mod n
 rcases Nat.mod_two_eq_zero_or_one n with he | he
 ·have h0 : IntKind.i64.wrap ((0 : Nat) : Int) = ((0 : Nat) : Int) := by rw [IntKind.wrap_i64]; omega
  have hx : n / 2 ^^^ 0 = n / 2 := Nat.xor_zero _
  have hs : sgn n = ((n / 2 : Nat) : Int) := by unfold sgn; rw [if_pos he]
  rw [he] at hz
  rw [hs]
  refine zY (zZ ?_); refine zP ?_; refine zX (zY (zZ ?_)); refine zR ?_; apply zU; rfl; rfl; rfl; (exact g_shrU rfl rfl rfl hone (by omega) (show n / 2 ^ 1 = n / 2 by omega)); apply zU; rfl; rfl; rfl; (apply wC; rfl; rfl; rfl; exact ⟨by omega, by omega⟩); refine zR ?_; apply zU; rfl; rfl; rfl; (exact g_andU rfl rfl rfl hone (by omega) (by omega) hz); apply zU; rfl; rfl; rfl; (apply wC; rfl; rfl; rfl; exact ⟨by omega, by omega⟩); apply zU; rfl; rfl; rfl; (apply g_neg; rfl; rfl; exact ⟨by omega, by omega⟩); apply zU; rfl; rfl; rfl; (exact hx ▸ g_xorN rfl rfl (n := 0) rfl (by rfl) (by omega) (by omega)); refine zP ?_; refine zX (zV ?_); simp only [yX]; rotate_left
  all_goals ((repeat (rename BV _ _ => k; first | cases k | clear k)); try exact zN)
  refine xW ?_
  rfl
 ·have h0 : IntKind.i64.wrap ((1 : Nat) : Int) = ((1 : Nat) : Int) := by rw [IntKind.wrap_i64]; omega
  have hs : -((n / 2 : Nat) : Int) - 1 = sgn n := by unfold sgn; rw [if_neg (by omega)]
  rw [he] at hz
  rw [← hs]
  refine zY (zZ ?_); refine zP ?_; refine zX (zY (zZ ?_)); refine zR ?_; apply zU; rfl; rfl; rfl; (exact g_shrU rfl rfl rfl hone (by omega) (show n / 2 ^ 1 = n / 2 by omega)); apply zU; rfl; rfl; rfl; (apply wC; rfl; rfl; rfl; exact ⟨by omega, by omega⟩); refine zR ?_; apply zU; rfl; rfl; rfl; (exact g_andU rfl rfl rfl hone (by omega) (by omega) hz); apply zU; rfl; rfl; rfl; (apply wC; rfl; rfl; rfl; exact ⟨by omega, by omega⟩); apply zU; rfl; rfl; rfl; (apply g_neg; rfl; rfl; exact ⟨by omega, by omega⟩); apply zU; rfl; rfl; rfl; (exact g_xorM rfl rfl rfl (by rfl) (by omega) rfl); refine zP ?_; refine zX (zV ?_); simp only [yX]; rotate_left
  all_goals ((repeat (rename BV _ _ => k; first | cases k | clear k)); try exact zN)
  refine xW ?_
  rfl
abbrev ValP (d b : Nat) (D : List Nat) : AV → List Ent → Prop := fun r τ => ∃ e', (∃ t D', tF d D = some (t, D') ∧ r = .agg (vtC t) ∧ e' = rdE b D') ∧ τ = [e']
theorem valD_eq (d : Nat) (D : List Nat) : tF d D = valO (if d = 0 then none else some (tF (d - 1))) D := by
 cases d with
 | zero => rfl
 | succ d => rfl
theorem len_none {α : Type} {E : List Nat} {f : Nat × List Nat → Option α} (h : ∀ u D', vU 0 E = some (u, D') → ¬ u ≤ D'.length) : (vU 0 E).bind (fun p => if p.1 ≤ p.2.length then f p else none) = none := by
 cases hn : vU 0 E with
 | none => rfl
 | some p => rw [Option.bind_some, if_neg (h p.1 p.2 hn)]
theorem value_s (d : Nat) (hd : d ≤ 16) (ih : ∀ d', d = d' + 1 → ∀ (b : Nat) (D : List Nat), (∀ x ∈ D, x < 256) → D.length ≤ 1000 → PCall Tryz.prog chE (tF d' D = none) 147 [.ptr b 0, .int .i64 (16 - (d' : Int))] [rdE b D] (ValP d' b D))
  (b : Nat) (D : List Nat) (hB : ∀ x ∈ D, x < 256) (hD : D.length ≤ 1000) : PCall Tryz.prog chE (tF d D = none) 147 [.ptr b 0, .int .i64 (16 - (d : Int))] [rdE b D] (ValP d b D) := by
 refine pcall_of Tryz.func147 rfl (by simp) ?_
 refine zY (zZ ?_); refine xK ?_; intro _; refine zX (zY (zZ ?_)); refine zR ?_; rotate_left
 all_goals ((repeat (rename BV _ _ => k; first | cases k | clear k)); try exact zN)
 rename Nat => b4; revert b4
 intro b4
 refine exl_p rfl rfl rfl (uD rfl rfl (zB (by kernel_rfl)) (take1_g (D := D) (by omega) (fun e' => by exact (by (repeat first | exact Upd.here | apply Upd.there))))) (fun hN => And.intro rfl (And.intro rfl (by rw [hN, valD_eq]; rfl))) ?_
 rintro _ _ ⟨c, E, rfl, rfl, rfl⟩
 have hc : c < 256 := hB c (by simp)
 have hE : ∀ x ∈ E, x < 256 := fun x hx => hB x (by simp [hx])
 rw [List.length_cons] at hD
 have hx : ([c].map b8C)[0]? = some (b8C c) := rfl
 have hci : IntKind.i64.wrap ((c : Nat) : Int) = ((c : Nat) : Int) := by rw [IntKind.wrap_i64]; omega
 clear hB
 unfold ValP
 rw [valD_eq, valO]
 by_cases h1 : c = 1
 ·subst h1
  rw [if_pos rfl]
  refine vG ?_; refine xLd ?_; apply zU; rfl; rfl; rfl; (apply wC; rfl; rfl; rfl; exact ⟨by omega, by omega⟩); refine uZ ?_; refine yR ?_; refine zX (zY (zY (zZ ?_))); refine yG ?_; refine zX (zT ?_); refine zY (zZ ?_); refine xY ?_; intro _ _; refine zP ?_; refine zX (yN ?_ ?_) <;> (intro h hp k; (try subst k); (try simp only [q_n] at hp); try first | omega | (cases hp; done));
  refine zZ (zR ?_); rotate_left
  all_goals ((repeat (rename BV _ _ => k; first | cases k | clear k)); try exact zN)
  refine exl_p rfl rfl rfl (uD rfl rfl (zB (by kernel_rfl)) (number_at hE (by omega) (fun e' => by exact (by (repeat first | exact Upd.here | apply Upd.there))))) (fun hN => And.intro rfl (And.intro rfl (by rw [hN]; rfl))) ?_
  rintro _ _ ⟨u, E2, hn, rfl, rfl⟩
  have hu := (numD_some hn hE).2
  rw [hn]
  clear ih
  apply zU; rfl; rfl; rfl; (refine yJ ?_; exact signed_g u hu _); refine uZ ?_; refine yR ?_; refine zQ (zY (zZ ?_)); refine yA ?_; refine yR ?_; refine zX (zV ?_); rotate_left
  all_goals ((repeat (rename BV _ _ => k; first | cases k | clear k)); try exact zN)
  refine xX (σ3 := [rdE b E2]) ?_
  refine wJ (sz := 4) (.agg (.same (.same (.same (.here .nil)))) .nil) ?_
  exact zJ ⟨_, ⟨_, _, rfl, by rw [vJ]; rfl, rfl⟩, rfl⟩
 by_cases h2 : c = 2
 ·subst h2
  rw [if_neg (by omega), if_pos rfl]
  refine vG ?_; refine xLd ?_; apply zU; rfl; rfl; rfl; (apply wC; rfl; rfl; rfl; exact ⟨by omega, by omega⟩); refine uZ ?_; refine yR ?_; refine zX (zY (zY (zZ ?_))); refine yG ?_; refine zX (zT ?_); refine zY (zZ ?_); refine xY ?_; intro _ _; refine zP ?_; refine zX (yN ?_ ?_) <;> (intro h hp k; (try subst k); (try simp only [q_n] at hp); try first | omega | (cases hp; done));
  refine zY (zZ ?_); refine xY ?_; intro _ _; refine zP ?_; refine zX (yN ?_ ?_) <;> (intro h hp k; (try subst k); (try simp only [q_n] at hp); try first | omega | (cases hp; done));
  refine zZ (zR ?_); refine zR ?_; rotate_left
  all_goals ((repeat (rename BV _ _ => k; first | cases k | clear k)); try exact zN)
  refine exl_p rfl rfl rfl (uD rfl rfl (zB (by kernel_rfl)) (length_at hE (by omega) (fun e' => by exact (by (repeat first | exact Upd.here | apply Upd.there))))) (fun hN => And.intro rfl (And.intro rfl (len_none hN))) ?_
  rintro _ _ ⟨u, E2, hn, hu, rfl, rfl⟩
  have hl := numD_len hn
  rw [hn]
  clear ih
  refine exl_p rfl rfl rfl (uD rfl rfl (zB (by kernel_rfl)) ((take_g b u E2 (by omega)).at (fun e' => by exact (by (repeat first | exact Upd.here | apply Upd.there))))) (fun hN => (Nat.not_lt.2 hu hN).elim) ?_
  rintro _ _ ⟨_, ⟨_, rfl, rfl⟩, rfl⟩
  apply zU; rfl; rfl; rfl; (exact g_bytesStr rfl rfl rfl rfl); refine uZ ?_; refine yR ?_; refine zQ (zY (zZ ?_)); refine yA ?_; refine yR ?_; refine zX (zV ?_); rotate_left
  all_goals ((repeat (rename BV _ _ => k; first | cases k | clear k)); try exact zN)
  refine xX (σ3 := [rdE b (E2.drop u)]) ?_
  refine wJ (sz := 4) (.agg (.same (.same (.same (.here .nil)))) .nil) ?_
  exact zJ ⟨_, ⟨_, _, by rw [Option.bind_some, if_pos hu], by rw [vJ]; rfl, rfl⟩, rfl⟩
 by_cases h3 : c = 3
 ·subst h3
  rw [if_neg (by omega), if_neg (by omega), if_pos rfl]
  cases d with
  | zero =>
   refine vG ?_; refine xLd ?_; apply zU; rfl; rfl; rfl; (apply wC; rfl; rfl; rfl; exact ⟨by omega, by omega⟩); refine uZ ?_; refine yR ?_; refine zX (zY (zY (zZ ?_))); refine yG ?_; refine zX (zT ?_); refine zY (zZ ?_); refine xY ?_; intro _ _; refine zP ?_; refine zX (yN ?_ ?_) <;> (intro h hp k; (try subst k); (try simp only [q_n] at hp); try first | omega | (cases hp; done));
   refine zY (zZ ?_); refine xY ?_; intro _ _; refine zP ?_; refine zX (yN ?_ ?_) <;> (intro h hp k; (try subst k); (try simp only [q_n] at hp); try first | omega | (cases hp; done));
   refine zY (zZ ?_); refine xY ?_; intro _ _; refine zP ?_; refine zX (yN ?_ ?_) <;> (intro h hp k; (try subst k); (try simp only [q_n] at hp); try first | omega | (cases hp; done));
   refine zY (zZ ?_); (iterate 2 refine zR ?_); refine xY ?_; intro _ _; simp only [zA, zF, zE, zH, yK, ↓reduceIte, Nat.reduceEqDiff]; rotate_left
   all_goals ((repeat (rename BV _ _ => k; first | cases k | clear k)); try exact zN)
   refine exl_p rfl rfl rfl (uD rfl rfl (zB (by kernel_rfl)) want_at) (fun _ => And.intro rfl (And.intro rfl rfl)) ?_
   rintro _ _ ⟨hq, _, _⟩
   have hq2 := of_decide_eq_true hq
   exfalso
   omega
  | succ d =>
   have hdep : decide ((16 - ((d + 1 : Nat) : Int)) < 16) = true := decide_eq_true (by omega)
   have hdi : 16 - ((d + 1 : Nat) : Int) + 1 = 16 - (d : Int) := by omega
   have ihd := ih d rfl
   clear ih
   rw [if_neg (by omega), Nat.add_sub_cancel, Option.bind_some]
   refine vG ?_; refine xLd ?_; apply zU; rfl; rfl; rfl; (apply wC; rfl; rfl; rfl; exact ⟨by omega, by omega⟩); refine uZ ?_; refine yR ?_; refine zX (zY (zY (zZ ?_))); refine yG ?_; refine zX (zT ?_); refine zY (zZ ?_); refine xY ?_; intro _ _; refine zP ?_; refine zX (yN ?_ ?_) <;> (intro h hp k; (try subst k); (try simp only [q_n] at hp); try first | omega | (cases hp; done));
   refine zY (zZ ?_); refine xY ?_; intro _ _; refine zP ?_; refine zX (yN ?_ ?_) <;> (intro h hp k; (try subst k); (try simp only [q_n] at hp); try first | omega | (cases hp; done));
   refine zY (zZ ?_); refine xY ?_; intro _ _; refine zP ?_; refine zX (yN ?_ ?_) <;> (intro h hp k; (try subst k); (try simp only [q_n] at hp); try first | omega | (cases hp; done));
   refine zY (zZ ?_); (iterate 2 refine zR ?_); refine xY ?_; intro _ _; rotate_left
   all_goals ((repeat (rename BV _ _ => k; first | cases k | clear k)); try exact zN)
   refine exl_p rfl rfl rfl (uD rfl rfl (zB (by kernel_rfl)) want_at) (fun hN => absurd (hN.symm.trans hdep) (by decide)) ?_
   rintro _ _ ⟨_, rfl, rfl⟩
   refine zX (zY (zZ ?_)); refine zR ?_; rotate_left
   all_goals ((repeat (rename BV _ _ => k; first | cases k | clear k)); try exact zN)
   refine exl_p rfl rfl rfl (uD rfl rfl (zB (by kernel_rfl)) (length_at hE (by omega) (fun e' => by exact (by (repeat first | exact Upd.here | apply Upd.there))))) (fun hN => And.intro rfl (And.intro rfl (len_none hN))) ?_
   rintro _ _ ⟨u, E2, hn, hu, rfl, rfl⟩
   have hl := numD_len hn
   have hE2 : ∀ x ∈ E2, x < 256 := fun x hx => hE x (numD_sub hn x hx)
   have hE2l : E2.length ≤ 1000 := by omega
   rw [hn, Option.bind_some]
   dsimp only
   rw [if_pos hu]
   have hub : u ≤ 1000 := by omega
   clear hn hE hl hx hci hc h1 h2 hD
   refine zR ?_; refine zX (zT ?_); rotate_left
   all_goals ((repeat (rename BV _ _ => k; first | cases k | clear k)); try exact zN)
   refine qR 160 4 ?_
   refine yD (fun (z : Nat × List Vt × List Nat × Value) => (⟨[(0, .ptr b 0), (1, .int .i64 (16 - ((d + 1 : Nat) : Int))), (4, .ptr b4 0), (36, .int .i64 u), (37, .int .i64 z.1)], .row z.2.2.2 160 4 (z.2.1.map vtC) :: .cells b4 [.int .i64 3, .int .i64 0, noStr, .slv z.2.2.2] 160 :: [rdE b z.2.2.1], [], Tryz.f147.ntmps⟩ : St)) (fun z => (z.1 ≤ u ∧ z.2.1.length = z.1 ∧ z.2.2.1.length ≤ 1000 ∧ ∀ x ∈ z.2.2.1, x < 256) ∧ qZ (tF d) u E2 = (qZ (tF d) (u - z.1) z.2.2.1).map fun q => (z.2.1 ++ q.1, q.2)) (fun z => u - z.1) (0, [], E2, nilS) (⟨⟨Nat.zero_le _, rfl, hE2l, hE2⟩, by simp only [Nat.sub_zero, List.nil_append]; cases qZ (tF d) u E2 <;> rfl⟩) (St.le_of (by repeat (first | exact trivial | refine ⟨rfl, ?_⟩)) (by repeat (first | exact q_r | apply q_q | apply q_k))) ?_
   intro z hI
   obtain ⟨j, l, F, w⟩ := z
   obtain ⟨⟨hI1, hI2, hI3, hI4⟩, hI5⟩ := hI
   dsimp only at hI1 hI2 hI3 hI4 hI5 ⊢
   rw [hI5]
   clear hI5 hu hE2 hE2l
   by_cases hj : j < u
   ·have ihj := ihd b F hI4 hI3
    rw [← hdi] at ihj
    clear ihd
    rw [show u - j = (u - (j + 1)) + 1 by omega, qZ]
    refine zY (zZ ?_); refine xY ?_; intro _ _; refine zX (zY (yN ?_ ?_)) <;> (intro h hp k; (try subst k); (try simp only [q_n] at hp); try first | omega | (cases hp; done));
    refine zW (zY (zT ?_)); rotate_left
    all_goals ((repeat (rename BV _ _ => k; first | cases k | clear k)); try exact zN)
    refine ex_drp (N := tF d F = none) (fun x => x = .cells b4 [.int .i64 3, .int .i64 0, noStr, .slv w] 160) [5, 7] 8 rfl (by kernel_rfl) rfl (fun hN _ => And.intro rfl (And.intro rfl (by rw [hN]; rfl))) ?_
    refine drp_val rfl rfl (by kernel_rfl) ?_; refine tN ?_; refine drp_val rfl rfl (by kernel_rfl) ?_; refine dLd ?_; refine drp_val rfl rfl (by kernel_rfl) ?_; refine tP ?_; refine drp_val rfl rfl (by kernel_rfl) ?_; refine tP ?_; refine drp_val rfl rfl (by kernel_rfl) ?_; apply yS; rfl; rfl; (intro σ' hl; (apply g_add; rfl; rfl; rfl; exact ⟨by omega, by omega⟩)); refine drp_one rfl rfl ?_; refine dps_eff rfl rfl (uD rfl rfl (zB (by kernel_rfl)) (PCall.at ihj (fun e' => by exact (by (exact Upd.there (Upd.there (Upd.here))))))) ?_; rintro _ _ ⟨_, ⟨⟨t1, t2, t3, t4⟩, F', hv, rfl, rfl⟩, rfl⟩; refine ⟨(by (rintro _ (rfl | rfl | rfl) _ <;> exact (by repeat first | exact q_h | apply q_t | assumption))), ?_⟩; simp only [vtC]; refine drp_val rfl rfl (by kernel_rfl) ?_; apply yS; rfl; rfl; (intro σ' hl; (exact xE (yV rfl rfl (by decide) rfl rfl (by (simp only [xC, wU]; rfl))))); refine drp_one rfl rfl ?_; refine dps_of ?_; refine drs_eff rfl rfl (by apply xG; rfl; rfl; rfl; (intro v'; (exact Upd.here)); (exact .d); (intro y hy; simp only [tC] at hy; (focus (obtain ⟨_, _, rfl⟩ := hy; rfl; done))); (refine wP ?_ (by kernel_rfl); (try simp only [List.length_append, List.length_map, List.length_cons, List.length_nil, List.length_take, List.length_drop]); omega)) ?_; rintro _ _ ⟨v'⟩; refine ⟨(by (rintro _ (rfl | rfl | rfl) _ <;> exact (by repeat first | exact q_h | apply q_t | assumption))), ?_⟩; refine drp_nil rfl ?_; refine uZ ?_; refine yR ?_; refine zQ (zZ (vX ?_)); refine zR ?_; refine zQ ?_; simp only [zA, zF, zE, zH, yK, ↓reduceIte, Nat.reduceEqDiff]; rotate_left
    all_goals ((repeat (rename BV _ _ => k; first | cases k | clear k)); try exact zN)
    refine ⟨(j + 1, l ++ [.mk t1 t2 t3 t4], F', v'), ⟨⟨hj, by dsimp only; rw [List.length_append, hI2]; rfl, ?_, ?_⟩, ?_⟩, by dsimp only; omega, ?_⟩
    ·have h1 := (val_rd d hv hI4 hI3).enc
     have h2 := congrArg List.length h1
     rw [List.length_append] at h2
     dsimp only; omega
    ·have h1 := (val_rd d hv hI4 hI3).enc
     exact fun x hx => hI4 x (by rw [h1]; exact List.mem_append_right _ hx)
    ·dsimp only
     rw [hv, Option.bind_some, Option.map_map]
     congr 1
     funext q
     show (l ++ _ :: q.1, q.2) = (l ++ [_] ++ q.1, q.2)
     rw [List.append_assoc]; rfl
    ·dsimp only
     rw [List.map_append]
     exact wW
   ·have e : j = u := by omega
    subst e
    rw [Nat.sub_self, qZ]
    refine zY (zZ ?_); refine xY ?_; intro _ _; refine zX (zY (yN ?_ ?_)) <;> (intro h hp k; (try subst k); (try simp only [q_n] at hp); try first | omega | (cases hp; done));
    refine yQ ?_; refine zY (zZ ?_); refine yA ?_; refine yR ?_; refine zX (zV ?_); rotate_left
    all_goals ((repeat (rename BV _ _ => k; first | cases k | clear k)); try exact zN)
    refine xX (σ3 := .row w 160 4 (l.map vtC) :: [rdE b F]) ?_
    refine vV .here (.agg (.same (.same (.same (.here .nil)))) .nil) ?_
    refine zJ ⟨_, ⟨_, _, rfl, ?_, rfl⟩, rfl⟩
    rw [vJ]
    show _ = AV.agg [_, _, _, AV.dl 4 (List.map vtC (l ++ []))]
    rw [List.append_nil]
    rfl
 ·rw [if_neg h1, if_neg h2, if_neg h3]
  refine vG ?_; refine xLd ?_; apply zU; rfl; rfl; rfl; (apply wC; rfl; rfl; rfl; exact ⟨by omega, by omega⟩); refine uZ ?_; refine yR ?_; refine zX (zY (zY (zZ ?_))); refine yG ?_; refine zX (zT ?_); refine zY (zZ ?_); refine xY ?_; intro _ _; refine zP ?_; refine zX (yN ?_ ?_) <;> (intro h hp k; (try subst k); (try simp only [q_n] at hp); try first | omega | (cases hp; done));
  refine zY (zZ ?_); refine xY ?_; intro _ _; refine zP ?_; refine zX (yN ?_ ?_) <;> (intro h hp k; (try subst k); (try simp only [q_n] at hp); try first | omega | (cases hp; done));
  refine zY (zZ ?_); refine xY ?_; intro _ _; refine zP ?_; refine zX (yN ?_ ?_) <;> (intro h hp k; (try subst k); (try simp only [q_n] at hp); try first | omega | (cases hp; done));
  refine zZ (zR ?_); refine exl_p rfl rfl rfl (uD rfl rfl (zB (by kernel_rfl)) want_at) (fun _ => And.intro rfl (And.intro rfl rfl)) ?_; rintro _ _ ⟨hq, rfl, rfl⟩; cases hq
  all_goals ((repeat (rename BV _ _ => k; first | cases k | clear k)); try exact zN)
/-- The value that is next. -/
theorem value_g : ∀ (d : Nat), d ≤ 16 → ∀ (b : Nat) (D : List Nat), (∀ x ∈ D, x < 256) → D.length ≤ 1000 → PCall Tryz.prog chE (tF d D = none) 147 [.ptr b 0, .int .i64 (16 - (d : Int))] [rdE b D] (ValP d b D)
 | 0, h, b, D, hB, hD => value_s 0 h (fun _ e => by cases e) b D hB hD
 | d + 1, h, b, D, hB, hD => value_s (d + 1) h (fun d' e => by
   have e2 : d = d' := by omega
   subst e2
   exact value_g d (by omega)) b D hB hD
structure PCallF (P : Program) (ch : List PanicEntry) (N : Prop) (f : FuncId) (args : List AV) (σ : List Ent) (Q : AV → List Ent → Prop) (τ : List Ent) : Prop where
 run : ∀ X M w (vs : Array Value), Good X M σ w → VRels M args vs.toList → Calls P f vs w fun e w' => (∃ M' σ' r v, M.le M' ∧ Good X M' σ' w' ∧ VRel M' r v ∧ e = .returned v ∧ Q r σ') ∨ (e = .panicked ch ∧ N ∧ ∃ M', M.le M' ∧ Good X M' τ w')
section
variable {P : Program} {ch : List PanicEntry} {N : Prop}
theorem PCall.framed {f : FuncId} {args : List AV} {σ1 σ : List Ent} {Q : AV → List Ent → Prop} (h : PCall P ch N f args σ1 Q) (τ : List Ent) (hp : σ.Perm (σ1 ++ τ)) : PCallF P ch N f args σ (fun r σ' => ∃ σ2, Q r σ2 ∧ σ' = σ2 ++ τ) τ := by
 refine ⟨fun X M w vs hg ha => ?_⟩
 obtain ⟨X', h1, h2⟩ := (hg.perm hp).framed
 refine (h.run X' M w vs h1 ha).mono fun e w' hx => ?_
 rcases hx with ⟨M', σ', r, v, k1, k2, k3, k4, k5⟩ | ⟨k1, kn, M', k2, k3⟩
 ·exact .inl ⟨M', σ' ++ τ, r, v, k1, h2 _ _ _ k1 k2, k3, k4, σ', k5, rfl⟩
 ·exact .inr ⟨k1, kn, M', k2, h2 _ _ _ k2 k3⟩
section
variable {ro : Option Nat} {Q : Exit → St → Prop} {ops : Array Oper} {rest : List Oper} {env : Env} {σ τ : List Ent} {mk : List Nat} {n : Nat} {d : Nat} {ty : TypeId} {pos : String} {after : Array Edge}
theorem exl_pf {f : Operand} {args : Array Operand} {ats : Array TypeId} {g : FuncId} {first cap l : List AV} {R : AV → List Ent → Prop} (hn : Nat.blt d n = true) (hf : xP env f = some (.fn (.func g) first cap)) (hl : evAs env args.toList = some l) (he : Enters P g) (h : PCallF P ch N g (first ++ l ++ cap) σ R τ) (hp : N → Q (.panic ch) ⟨env, τ, mk, n⟩)
  (hk : ∀ v σ', R v σ' → EXL P ro ops rest Q ⟨(d, v) :: env, σ', mk, n⟩) : EXL P ro ops (⟨some d, .call { callee := .value f, args := args, argTypes := ats }, ty, pos, after, none⟩ :: rest) Q ⟨env, σ, mk, n⟩ := by
 refine ⟨fun X M a w hs => ?_⟩
 unfold wpListIn
 rw [if_pos (by simp [Region.wanted])]
 have ho := hs.env.op (⟨some d, .call { callee := .value f, args := args, argTypes := ats }, ty, pos, after, none⟩ : Oper)
 have h1 := ho f (by simp [Op.operands, Call.operands]) _ hf
 simp only [VRel] at h1
 obtain ⟨vs, ws, hv, k1, k2⟩ := h1
 have k3 := evAs_rel (a := a) (M := M) (fun x hx v hv => ho x (by simp only [Op.operands, Call.operands, Array.mem_append]; exact .inr (by simpa using hx)) v hv) hl
 refine ⟨fun f _ => uB f ro, ?_⟩
 rw [Oper.semAt_eq _ _ _ (by intro c h; cases h)]
 have hrun : (execOp a.eval (⟨some d, .call { callee := .value f, args := args, argTypes := ats }, ty, pos, after, none⟩ : Oper)).run P w = .ok (.enter g (vs ++ args.map a.eval ++ ws)) w := by
  simp only [execOp, resolve, Sem.run_bind, hv, Deferred.ofValue, Sem.run_pure, Result.andThen_ok, invoke]
  exact he _ _
 rw [hrun]
 refine ⟨fun hd => (by cases hd), callsIn_fence ((h.run X M w _ hs.good (by simpa using (k1.append k3).append k2)).mono ?_)⟩
 rintro e w' (⟨M', σ', r, v, hm, hg', hv', rfl, hq⟩ | ⟨rfl, hN, M', hm, hg'⟩)
 ·exact wK (fun _ _ _ hp => vB hm (fun _ _ h => h) hp) _ _ _ ((hk r σ' hq).run X M' _ w' (hs.put hm hg' (dst_ok (o := ⟨some d, .call { callee := .value f, args := args, argTypes := ats }, ty, pos, after, none⟩) rfl hn) hv'))
 ·exact ⟨M', ⟨env, τ, mk, n⟩, hm, ⟨hg', hs.size, hs.defs, hs.env.mono hm⟩, hp hN⟩
end
def Saves (P : Program) (ch : List PanicEntry) (f : FuncId) (cap : List AV) (σ : List Ent) (R : List Ent → Prop) : Prop :=
 ∀ X M w (ws : Array Value), Good X M σ w → VRels M cap ws.toList → CallsDIn (uP none) 0 P f ws (.panicking ch) w fun e u' w' => (∃ v, e = .returned v) ∧ settle u' = .returning ∧ ∃ M' σ', M.le M' ∧ Good X M' σ' w' ∧ R σ'
def retR (P : Program) (fn : Func) (ch : List PanicEntry) (f : FuncId) (cap : List AV) (Q : AV → List Ent → Prop) : Exit → St → Prop
 | .panic c, s => c = ch ∧ s.marks = [] ∧ ∃ σr R, σr.Sublist s.σ ∧ Saves P ch f cap σr R ∧ ∀ σ', R σ' → ∃ vs, Res P s.env σ' fn.results.toList vs ∧ Fin σ' (oneA vs) Q
 | .ret, s => RetOK P fn Q s
 | .normal, s => RetOK P fn Q s
 | _, _ => False
theorem exdl_deferP {fn : Func} {ops : Array Oper} {ty : TypeId} {pos : String} {after : Array Edge} {t : Tmp} {y : Code} {Q : AV → List Ent → Prop} {env : Env} {σ : List Ent} {n : Nat} {f : FuncId} {cap : List AV}
  (ht : lk env t = some (.fn (.func f) [] cap)) (he : Enters P f) (hi : Idle P f cap.length)
  (h : EX P none y (retR P fn ch f cap Q) ⟨env, σ, [], n⟩) : EXDL P fn ops [⟨none, .defer { callee := .value (.tmp t), args := #[], argTypes := #[] }, ty, pos, after, none⟩] y Q ⟨env, σ, [], n⟩ := by
 refine ⟨fun X M0 M a w hX hm0 hs => ?_⟩
 unfold wpListIn
 rw [if_pos (by simp [Region.wanted])]
 obtain ⟨u, hu1, hu2⟩ := hs.env t _ ht
 simp only [VRel] at hu2
 obtain ⟨vs, ws, rfl, k1, k2⟩ := hu2
 have hvs : vs = #[] := by
  have hk := k1.length
  exact Array.eq_empty_of_size_eq_zero (by simpa using hk)
 subst hvs
 have hws : ws.size = cap.length := by have hk := k2.length; simpa using hk
 have hrun : (execOp a.eval (⟨none, .defer { callee := .value (.tmp t), args := #[], argTypes := #[] }, ty, pos, after, none⟩ : Oper)).run P w = .ok (.defer { target := .fn (.func f) ws, args := #[] }) w := by
  simp [execOp, resolve, Act.eval, Array.getD_eq_getD_getElem?, hu1, go_sem]
 refine ⟨fun f _ => uB f none, ?_⟩
 rw [show Oper.semAt (uP none).round a.eval (⟨none, .defer { callee := .value (.tmp t), args := #[], argTypes := #[] }, ty, pos, after, none⟩ : Oper) = execOp a.eval (⟨none, .defer { callee := .value (.tmp t), args := #[], argTypes := #[] }, ty, pos, after, none⟩ : Oper) from rfl, hrun]
 obtain ⟨X1, hX1⟩ : ∃ X1 : Fx, X1 = { X with dt := [{ target := .fn (.func f) ws, args := #[] }] } := ⟨_, rfl⟩
 have hg1 : ∀ {M σ w}, Good X M σ w → Good X1 M σ w := fun h => hX1 ▸ h.dt _
 have back : ∀ {M σ w}, Good X1 M σ w → Good X M σ w := fun h => (hX1 ▸ h : Good { X with dt := [{ target := .fn (.func f) ws, args := #[] }] } _ _ _).undt
 have hdt : X1.dt = [{ target := .fn (.func f) ws, args := #[] }] := by rw [hX1]
 have hs1 : Sim X1 M ⟨env, σ, [], n⟩ { a with defers := { target := .fn (.func f) ws, args := #[] } :: a.defers } w := ⟨hg1 hs.good, hs.size, by rw [hdt]; show _ :: a.defers = _; rw [hs.defs, hX]; rfl, hs.env⟩
 show y.wpIn (uP none) 0 P (endsA P fn X M0 Q) { a with defers := { target := .fn (.func f) ws, args := #[] } :: a.defers } w
 refine Go.wpIn_mono (h.run X1 M _ w hs1) ?_
 rintro e a' w' ⟨M', s', hm, hs', hq⟩
 have fin : RetOK P fn Q s' → LeavesInM (uP none) 0 P fn a'.tmps (fun e w' => ∃ M' σ' r v, M0.le M' ∧ Good X M' σ' w' ∧ VRel M' r v ∧ e = .returned v ∧ Q r σ') a'.defers .returning w' := by
  rintro ⟨rs, σ1, h1, h2, h3⟩
  rw [hs'.defs, hdt]
  refine leaves_marks_tl h1 hs'.good (fun w2 hg2 => ?_)
  refine ⟨by simp, .inr ⟨(fun h => by cases h), .func f, ws, f, #[] ++ ws, rfl, he _ _, fun _ _ => trivial, (hi _ _ (by simpa using hws)).mono ?_⟩⟩
  rintro e u' w3 ⟨⟨v, rfl⟩, rfl, rfl⟩
  obtain ⟨u, hu, hv⟩ := results_run h2 hg2 hs'.env
  obtain ⟨M2, σ2, r2, k1, k2, k3, k4⟩ := h3 X1 M' w3 u hg2 hv
  exact ⟨u, hu, M2, σ2, r2, u, Mem.le_trans hm0 (Mem.le_trans hm k1), back k2, k3, rfl, k4⟩
 cases e with
 | ret => exact fin hq
 | normal => exact fin hq
 | exit id => exact hq.elim
 | goto l => exact hq.elim
 | panic c =>
  obtain ⟨rfl, hmk, σr, R, hsub, hsv, hres⟩ := hq
  show LeavesInM (uP none) 0 P fn a'.tmps (fun e w' => ∃ M' σ' r v, M0.le M' ∧ Good X M' σ' w' ∧ VRel M' r v ∧ e = .returned v ∧ Q r σ') a'.defers (.panicking c) w'
  rw [hs'.defs, hdt, hmk]
  refine ⟨by simp, .inr ⟨(fun h => by cases h), .func f, ws, f, #[] ++ ws, rfl, he _ _, fun _ _ => trivial, (hsv X1 M' w' (#[] ++ ws) (hs'.good.sub hsub) (by simpa using k2.mono hm)).mono ?_⟩⟩
  rintro e u' w3 ⟨⟨v, rfl⟩, hst, M2, σ2, hm2, hg2, hR⟩
  show LeavesInM (uP none) 0 P fn a'.tmps _ [] (settle u') w3
  rw [hst]
  obtain ⟨vs, h2, h3⟩ := hres σ2 hR
  obtain ⟨u, hu, hv⟩ := results_run h2 hg2 (hs'.env.mono hm2)
  obtain ⟨M3, σ3, r3, j1, j2, j3, j4⟩ := h3 X1 M2 w3 u hg2 hv
  exact ⟨u, hu, M3, σ3, r3, u, Mem.le_trans hm0 (Mem.le_trans hm (Mem.le_trans hm2 j1)), back j2, j3, rfl, j4⟩
 | outgrown => exact hq.elim
end
end Go.Proofs.YtkhoengjdfmfaaaGreat
