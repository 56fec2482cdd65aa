/- Unsigned numbers: an int made one, halved. -/
import Derived.Test.YtobcnochlkdpaaaSq
import Derived.Test.YtobcnochlkdpaaaSp
namespace Go.Proofs.Ytobcnochlkdpaaa
set_option linter.unusedSimpArgs false
set_option linter.unusedVariables false
theorem wrapU {n : Int} (h : 0 ≤ n ∧ n ≤ 9223372036854775807) : IntKind.u64.wrap n = n := by
  simp only [IntKind.wrap, IntKind.bits, IntKind.signed]
  simp
  omega
theorem g_convU {P : Program} {ro : Option Nat} {env : Env} {σ : List Ent} {dst : Option Tmp} {ty : TypeId} {pos : String} {after : Array Edge} {guard : Option (Nat × Bool)} {s t : TypeId} {x : Operand} {k' ks : IntKind} {n : Int} (hs : P.underlying s = some (.int ks)) (ht : P.underlying t = some (.int .u64)) (hx : evA env x = some (.int k' n)) (hn : 0 ≤ n ∧ n ≤ 9223372036854775807) :
    GOp P ro ⟨dst, .convert s t x, ty, pos, after, guard⟩ env σ (Is (.int .u64 n) σ) :=
  gop_pure _ (by intro c h; cases h) fun X M e w hg ho => by
    have h1 := ho x (by simp [Op.operands]) _ hx
    simp only [VRel] at h1
    refine ⟨.int .u64 n, by simp [VRel], ?_⟩
    have hw : IntKind.u64.wrap n = n := wrapU hn
    simp [execOp, h1, convert, Sem.run_bind, run_underlying hs, run_underlying ht, Conv.intToInt, hw]
theorem g_halfU {P : Program} {ro : Option Nat} {env : Env} {σ : List Ent} {dst : Option Tmp} {ty : TypeId} {pos : String} {after : Array Edge} {guard : Option (Nat × Bool)} {x y : Operand} {t yt : TypeId} {k' : IntKind} {a b : Int} {m : Nat} (hx : evA env x = some (.int .u64 a)) (hy : evA env y = some (.int k' b)) (hb : b = 1) (ha : a = (m : Int)) :
    GOp P ro ⟨dst, .binOp .shr t x y yt, ty, pos, after, guard⟩ env σ (Is (.int .u64 ((m / 2 : Nat) : Int)) σ) := by
  subst ha hb
  refine g_bits (c := ((m : Int)).fdiv (2 ^ min 1 64)) hx hy (.inr (.inr rfl)) ?_ ?_
  · show (if (1 : Int) < 0 then none else some (((m : Int)).fdiv (2 ^ min (1 : Int).toNat 64))) = _
    rw [if_neg (by omega)]; rfl
  · rw [Int.fdiv_eq_ediv_of_nonneg _ (by decide)]
    show (m : Int) / 2 = _
    omega
end Go.Proofs.Ytobcnochlkdpaaa
