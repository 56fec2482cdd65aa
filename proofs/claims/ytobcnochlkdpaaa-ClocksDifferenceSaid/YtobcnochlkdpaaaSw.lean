/- A logic of abstract values: arrays of two integers compared. -/
import Derived.Test.YtobcnochlkdpaaaSv
import Derived.ChangeKeysEq
namespace Go.Proofs.Ytobcnochlkdpaaa
set_option linter.unusedSimpArgs false
set_option linter.unusedVariables false

section
variable {P : Program} {ro : Option Nat} {env : Env} {σ σ' : List Ent} {dst : Option Tmp} {ty : TypeId} {pos : String} {after : Array Edge} {guard : Option (Nat × Bool)}
/-- An array of two integers that can be compared so. -/
def arr2Of (P : Program) (t : TypeId) : Bool := match P.underlying t with
  | some (.array 2 e) => match P.underlying e with
    | some (.int _) => (P.info? e).isSome && Nat.beq (P.cellsOf e) 1 && !P.eqGuardType P.depth t
    | _ => false
  | _ => false
/-- Is it an array of two? -/
def arr2A (P : Program) (t : TypeId) : Bool := match P.underlying t with
  | some (.array 2 _) => true
  | _ => false
theorem run_arr2 {t : TypeId} {k0 k1 : IntKind} {a0 a1 b0 b1 : Int} {xs ys : Array Value} (ht : arr2Of P t = true) (h1 : xs[0]? = some (.int k0 a0)) (h2 : xs[1]? = some (.int k1 a1)) (h3 : ys[0]? = some (.int k0 b0)) (h4 : ys[1]? = some (.int k1 b1)) (w : World) :
    (Op.equalIn 10000 t (.agg xs) (.agg ys)).run P w = .ok ((a0 == b0) && (a1 == b1)) w ∧ P.eqGuardType P.depth t = false := by
  unfold arr2Of at ht
  split at ht
  · rename_i e hu
    split at ht
    · rename_i k he
      simp only [Bool.and_eq_true, Bool.not_eq_true', Option.isSome_iff_exists] at ht
      obtain ⟨⟨⟨i, hi⟩, hc⟩, hg⟩ := ht
      have hc : P.cellsOf e = 1 := by simpa using hc
      refine ⟨?_, hg⟩
      rw [run_equalIn_array w 9999 xs ys hu hi, hc]
      have r1 := run_part1 (P := P) (isAgg_int he hi w) h1
      have r2 := run_part1 (P := P) (isAgg_int he hi w) h2
      have r3 := run_part1 (P := P) (isAgg_int he hi w) h3
      have r4 := run_part1 (P := P) (isAgg_int he hi w) h4
      have q1 : (Op.equalIn 9999 e (.int k0 a0) (.int k0 b0)).run P w = .ok (a0 == b0) w := run_equalIn_int (P := P) w 9998 e k0 k a0 b0 he
      have q2 : (Op.equalIn 9999 e (.int k1 a1) (.int k1 b1)).run P w = .ok (a1 == b1) w := run_equalIn_int (P := P) w 9998 e k1 k a1 b1 he
      have hr : List.range 2 = [0, 1] := rfl
      rw [hr]
      simp only [Op.eqItems, Sem.run_bind, Nat.zero_mul, Nat.one_mul, r1, r2, r3, r4, Result.andThen_ok, q1, q2]
      cases hab : a0 == b0
      · simp
      · cases hab2 : a1 == b1 <;> simp [r2, r4, q2, hab2]
    · cases ht
  · cases ht
theorem g_eqlArr2 {x y : Operand} {t yt : TypeId} {k0 k1 : IntKind} {a0 a1 b0 b1 : Int} (_ : arr2A P t = true) (ht : arr2Of P t = true) (hx : evA env x = some (.agg [.int k0 a0, .int k1 a1])) (hy : evA env y = some (.agg [.int k0 b0, .int k1 b1])) :
    GOp P ro ⟨dst, .binOp .eql t x y yt, ty, pos, after, guard⟩ env σ (Is (.bool ((a0 == b0) && (a1 == b1))) σ) :=
  gop_pure _ (by intro c h; cases h) fun X M e w hg ho => by
    have h1 := ho x (by simp [Op.operands]) _ hx
    have h2 := ho y (by simp [Op.operands]) _ hy
    simp only [VRel] at h1 h2
    obtain ⟨vs, e1, k1'⟩ := h1
    obtain ⟨us, e2, k2'⟩ := h2
    obtain ⟨v0, p0, q0⟩ := k1'.get (i := 0) rfl
    obtain ⟨v1, p1, q1⟩ := k1'.get (i := 1) rfl
    obtain ⟨u0, p2, q2⟩ := k2'.get (i := 0) rfl
    obtain ⟨u1, p3, q3⟩ := k2'.get (i := 1) rfl
    simp only [VRel] at q0 q1 q2 q3
    subst q0 q1 q2 q3
    obtain ⟨hr, hg2⟩ := run_arr2 (P := P) ht (by simpa using p0) (by simpa using p1) (by simpa using p2) (by simpa using p3) w
    refine ⟨.bool ((a0 == b0) && (a1 == b1)), by simp [VRel], ?_⟩
    simp only [execOp, e1, e2, Sem.run_bind, run_eqGuard_agg w .eql t x y vs us hg2, Result.andThen_ok, run_eql_struct, hr]
    rfl
theorem g_neqArr2 {x y : Operand} {t yt : TypeId} {k0 k1 : IntKind} {a0 a1 b0 b1 : Int} (_ : arr2A P t = true) (ht : arr2Of P t = true) (hx : evA env x = some (.agg [.int k0 a0, .int k1 a1])) (hy : evA env y = some (.agg [.int k0 b0, .int k1 b1])) :
    GOp P ro ⟨dst, .binOp .neq t x y yt, ty, pos, after, guard⟩ env σ (Is (.bool (!((a0 == b0) && (a1 == b1)))) σ) :=
  gop_pure _ (by intro c h; cases h) fun X M e w hg ho => by
    have h1 := ho x (by simp [Op.operands]) _ hx
    have h2 := ho y (by simp [Op.operands]) _ hy
    simp only [VRel] at h1 h2
    obtain ⟨vs, e1, k1'⟩ := h1
    obtain ⟨us, e2, k2'⟩ := h2
    obtain ⟨v0, p0, q0⟩ := k1'.get (i := 0) rfl
    obtain ⟨v1, p1, q1⟩ := k1'.get (i := 1) rfl
    obtain ⟨u0, p2, q2⟩ := k2'.get (i := 0) rfl
    obtain ⟨u1, p3, q3⟩ := k2'.get (i := 1) rfl
    simp only [VRel] at q0 q1 q2 q3
    subst q0 q1 q2 q3
    obtain ⟨hr, hg2⟩ := run_arr2 (P := P) ht (by simpa using p0) (by simpa using p1) (by simpa using p2) (by simpa using p3) w
    refine ⟨.bool (!((a0 == b0) && (a1 == b1))), by simp [VRel], ?_⟩
    simp only [execOp, e1, e2, Sem.run_bind, run_eqGuard_agg w .neq t x y vs us hg2, Result.andThen_ok, run_neq_struct, hr]
    rfl
end
end Go.Proofs.Ytobcnochlkdpaaa
