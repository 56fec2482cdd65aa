/- Structs compared whose first field is a struct. -/
import Derived.Test.YtobcnochlkdpaaaSl
namespace Go.Proofs.Ytobcnochlkdpaaa
set_option linter.unusedSimpArgs false
set_option linter.unusedVariables false
section
variable {P : Program} {ro : Option Nat} {env : Env} {σ : List Ent} {dst : Option Tmp} {ty : TypeId} {pos : String} {after : Array Edge} {guard : Option (Nat × Bool)}
def eqNest (P : Program) : List Field → List AV → List AV → Option Bool
  | f :: fs, l, m => match tyOf P f.type, P.underlying f.type, decide (f.name ≠ "_"), f.offset == 0 with
    | some (true, n), some (.struct gs), true, true => (eqFs P gs.toList 0 (l.take n) (m.take n)).bind fun r1 => (eqFs P fs n (l.drop n) (m.drop n)).map (r1 && ·)
    | _, _, _, _ => none
  | [], _, _ => none
/-- The first field's type holds nothing that cannot be compared. -/
def heldB (P : Program) : List Field → Bool
  | f :: _ => !P.stoodInHeld f.type
  | [] => false
theorem run_eqNest {M : Mem} {d : Nat} {w : World} {vs us : Array Value} {fs : List Field} {l m : List AV} {r : Bool} (h : eqNest P fs l m = some r) (hh : heldB P fs = true) (h1 : ∀ (j : Nat) x, l[j]? = some x → ∃ v, vs[j]? = some v ∧ VRel M x v) (h2 : ∀ (j : Nat) x, m[j]? = some x → ∃ v, us[j]? = some v ∧ VRel M x v) :
    (Op.eqFields (d + 2) vs us fs).run P w = .ok r w := by
  cases fs with
  | nil => cases h
  | cons f fs =>
    unfold eqNest at h
    simp only at h
    split at h
    · rename_i n gs ht hu hname hoff
      simp only [Option.bind_eq_some_iff, Option.map_eq_some_iff] at h
      obtain ⟨r1, hr1, r2, hr2, rfl⟩ := h
      have hoff : f.offset = 0 := by simpa using hoff
      have hname : f.name ≠ "_" := by simpa using hname
      have hst : P.stoodInHeld f.type = false := by simpa [heldB] using hh
      have hfo : P.fieldsOf f.type = gs := by unfold Program.fieldsOf; rw [hu]
      have hp : ∀ cs : Array Value, (part f.type cs f.offset).run P w = .ok (.agg (cs.extract 0 (0 + n))) w := fun cs => by
        simp [part, Sem.run_bind, (tyOf_spec ht w).1, (tyOf_spec ht w).2, hoff]
      have hsub : ∀ {cs : Array Value} {q : List AV}, (∀ (j : Nat) x, q[j]? = some x → ∃ v, cs[j]? = some v ∧ VRel M x v) → ∀ (j : Nat) x, (q.take n)[j]? = some x → ∃ v, (cs.extract 0 (0 + n))[0 + j]? = some v ∧ VRel M x v := fun hq j x hx => by
        rw [List.getElem?_take] at hx
        split at hx
        · rename_i hj
          obtain ⟨v, hv, hr⟩ := hq j x hx
          refine ⟨v, ?_, hr⟩
          have := (Array.getElem?_eq_some_iff.1 hv).1
          rw [Array.getElem?_extract]
          simp only [Nat.zero_add, Nat.sub_zero]
          rw [if_pos (by omega)]
          exact hv
        · cases hx
      have e1 := run_eqFs (P := P) (d := d) (w := w) hr1 (hsub h1) (hsub h2)
      have e2 := run_eqFs (P := P) (d := d + 1) (w := w) hr2 (fun j x hx => h1 (n + j) x (by rw [List.getElem?_drop] at hx; exact hx)) (fun j x hx => h2 (n + j) x (by rw [List.getElem?_drop] at hx; exact hx))
      have e3 := run_equalIn_agg (P := P) w (d + 1) f.type (vs.extract 0 (0 + n)) (us.extract 0 (0 + n)) (by rw [hfo]; exact hu) hst
      rw [hfo, e1] at e3
      simp only [Op.eqFields, if_pos hname, Sem.run_bind, hp, Result.andThen_ok, e3]
      cases r1
      · simp
      · simpa using e2
    · cases h
theorem g_neqNest {x y : Operand} {t yt : TypeId} {fs : Array Field} {l m : List AV} {b : Bool} (ht : P.underlying t = some (.struct fs)) (hq : eqTyB P t = true) (hh : heldB P (P.fieldsOf t).toList = true) (hx : evA env x = some (.agg l)) (hy : evA env y = some (.agg m)) (hb : eqNest P fs.toList l m = some b) :
    GOp P ro ⟨dst, .binOp .neq t x y yt, ty, pos, after, guard⟩ env σ (Is (.bool (!b)) σ) :=
  gop_pure _ (by intro c h; cases h) fun X M e w hg ho => by
    have h1 := ho x (by simp [Op.operands]) _ hx
    have h2 := ho y (by simp [Op.operands]) _ hy
    simp only [VRel] at h1 h2
    obtain ⟨vs, e1, k1⟩ := h1
    obtain ⟨us, e2, k2⟩ := h2
    obtain ⟨c1, c2, c3, c4⟩ := eqTy_spec ht hq
    refine ⟨.bool (!b), by simp [VRel], ?_⟩
    have hr := run_eqNest (P := P) (d := 9997) (w := w) hb (by rw [← c2]; exact hh) (vs := vs) (us := us) (M := M) (fun j x hx => by obtain ⟨v, a, b⟩ := k1.get hx; exact ⟨v, by simpa using a, b⟩) (fun j x hx => by obtain ⟨v, a, b⟩ := k2.get hx; exact ⟨v, by simpa using a, b⟩)
    simp only [execOp, e1, e2, Sem.run_bind, run_eqGuard_agg w .neq t x y vs us c3, Result.andThen_ok, run_neq_struct, run_equalIn_agg w 9999 t vs us c1 c4, c2, hr]
    rfl
end
end Go.Proofs.Ytobcnochlkdpaaa
