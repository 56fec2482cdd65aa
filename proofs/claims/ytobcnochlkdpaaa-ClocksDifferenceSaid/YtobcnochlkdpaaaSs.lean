/- Arrays behind pointers and as values; the program's tables (blocks that do not change). -/
import Derived.Test.YtobcnochlkdpaaaSz
namespace Go.Proofs.Ytobcnochlkdpaaa
set_option linter.unusedSimpArgs false
set_option linter.unusedVariables false
section
variable {P : Program} {ro : Option Nat} {env : Env} {σ : List Ent} {dst : Option Tmp} {ty : TypeId} {pos : String} {after : Array Edge} {guard : Option (Nat × Bool)}

/-- An array's length, its element's size. -/
def arrTy (P : Program) (t : TypeId) : Option (Nat × Nat) := match P.underlying t with
  | some (.array n e) => (P.info? e).map fun i => (n, i.size)
  | _ => none
theorem arrTy_spec {t : TypeId} {n sz : Nat} (h : arrTy P t = some (n, sz)) : ∃ e i, P.underlying t = some (.array n e) ∧ P.info? e = some i ∧ i.size = sz := by
  unfold arrTy at h
  split at h
  · rename_i m e hu
    simp only [Option.map_eq_some_iff, Prod.mk.injEq] at h
    obtain ⟨i, hi, rfl, rfl⟩ := h
    exact ⟨e, i, hu, hi, rfl⟩
  · cases h
/-- The address of an array's element. -/
theorem g_indexArr {t : TypeId} {x ix : Operand} {n sz k : Nat} {kk : IntKind} {i : Int} {p q : AV} (ht : arrTy P t = some (n, sz)) (hx : evA env x = some p) (hi : evA env ix = some (.int kk i)) (hk : i = (k : Int)) (hlt : k < n) (hq : p.plus (k * sz) = some q) :
    GOp P ro ⟨dst, .indexAddr t x ix, ty, pos, after, guard⟩ env σ (Is q σ) :=
  gop_pure q (by intro c h; cases h) fun X M a w hg ho => by
    have h1 := ho x (by simp [Op.operands]) _ hx
    have h2 := ho ix (by simp [Op.operands]) _ hi
    obtain ⟨ad, h3, h4⟩ := h1.plus hq
    simp only [VRel] at h2
    obtain ⟨e, inf, hu, hinf, hsz⟩ := arrTy_spec ht
    refine ⟨_, h4, ?_⟩
    subst hk
    simp [execOp, h2, h3, Instr.indexAt, Instr.sureAddr, asIntOf, Sem.run_bind, run_underlying hu, sizeOf, typeInfo, hinf, hsz, hlt]
def arrOne (P : Program) (t : TypeId) : Option Nat := match P.underlying t with
  | some (.array n e) => match tyOf P e with
    | some (false, 1) => some n
    | _ => none
  | _ => none
/-- An element, of one cell, of an array as a value. -/
theorem g_index1 {t : TypeId} {x ix : Operand} {n k : Nat} {kk : IntKind} {i : Int} {l : List AV} {v : AV} (ht : arrOne P t = some n) (hx : evA env x = some (.agg l)) (hi : evA env ix = some (.int kk i)) (hk : i = (k : Int)) (hlt : k < n) (hv : l[k]? = some v) :
    GOp P ro ⟨dst, .index t x ix, ty, pos, after, guard⟩ env σ (Is v σ) :=
  gop_pure v (by intro c h; cases h) fun X M a w hg ho => by
    have h1 := ho x (by simp [Op.operands]) _ hx
    have h2 := ho ix (by simp [Op.operands]) _ hi
    simp only [VRel] at h1 h2
    obtain ⟨vs, e, h3⟩ := h1
    obtain ⟨u, h4, h5⟩ := h3.get hv
    unfold arrOne at ht
    split at ht
    · rename_i m el hu
      split at ht
      · rename_i hty
        cases ht
        obtain ⟨k1, k2⟩ := tyOf_spec hty w
        subst hk
        exact ⟨u, h5, by simp [execOp, e, h2, Instr.index, asIntOf, Sem.run_bind, run_underlying hu, part, k1, k2, hlt, show vs[k]? = some u by simpa using h4]⟩
      · cases ht
    · cases ht
/-- A table's element, at an index that is not known. -/
theorem pts_gk {b k o : Nat} {l : List AV} {u : AV} (hm : Ent.glob b l ∈ σ) (ho : o = k) (h : l[k]? = some u) : Pts σ (.ptr b o) 0 u := .g hm (by rw [ho]; exact h)
theorem rrel_ones {M : Mem} {b : Nat} : ∀ {l : List AV} {i : Nat}, CRel M b i l → RRel M b i (l.map fun x => [x])
  | [], _, _ => by simp [RRel]
  | x :: l, i, h => by
    simp only [CRel] at h
    simp only [List.map_cons, RRel, CRel, List.length_singleton]
    exact ⟨⟨h.1, trivial⟩, rrel_ones h.2⟩
/-- The first elements of a table, as a slice. -/
theorem g_sliceTab {t : TypeId} {x hi : Operand} {n h g : Nat} {hj : Int} {l : List AV} (ht : arrTy P t = some (n, 1)) (hx : evA env x = some (.ptr g 0)) (hm : Ent.glob g l ∈ σ) (hl : l.length = n) (hn : Nat.ble n 1000000 = true) (hhi : boundA env 0 (some hi) = some hj) (hh : hj = (h : Int)) (hle : h ≤ n) :
    GOp P ro ⟨dst, .slice t x none (some hi) none, ty, pos, after, guard⟩ env σ (Is (.dl 1 ((l.take h).map fun x => [x])) σ) :=
  gop_pure _ (by intro c hc; cases hc) fun X M a w hg ho => by
    have h1 := ho x (by simp [Op.operands]) _ hx
    simp only [VRel] at h1
    obtain ⟨e, inf, hu, hinf, hsz⟩ := arrTy_spec ht
    have hn := Nat.le_of_ble_eq_true hn
    have hc : CRel M g 0 l := hg.ent _ hm
    obtain ⟨k, hk⟩ : ∃ k, a.eval hi = .int k (h : Int) := by
      simp only [boundA] at hhi
      split at hhi
      · rename_i k m he
        cases hhi
        have := ho hi (by simp [Op.operands]) _ he
        simp only [VRel] at this
        exact ⟨_, this.trans (by rw [hh])⟩
      · cases hhi
    refine ⟨.slice (some ⟨g, 0, none⟩) h n, ?_, ?_⟩
    · simp only [VRel]
      refine ⟨_, n, by rw [List.length_map, List.length_take, Nat.min_eq_left (by omega)], by rw [List.length_map, List.length_take]; omega, by unfold maxLen; omega, fun y hy => ?_, .inr ⟨g, 0, rfl, ?_⟩⟩
      · obtain ⟨_, _, rfl⟩ := List.mem_map.1 hy; rfl
      · rw [List.map_take]
        exact RRel.take h (rrel_ones hc)
    · by_cases h0 : n = 0
      · subst h0
        obtain rfl : h = 0 := by omega
        simp [execOp, h1, hk, Instr.sliceAt, Instr.sureAddr, run_underlying hu, Instr.sliceBounds, Sem.run_bind, sizeOf, typeInfo, hinf, hsz, Instr.sliceBound, asIntOf]
      · simp [execOp, h1, hk, Instr.sliceAt, Instr.sureAddr, run_underlying hu, Instr.sliceBounds, Sem.run_bind, sizeOf, typeInfo, hinf, hsz, Instr.sliceBound, asIntOf, hle, h0]
        unfold Addr.add
        split <;> simp_all
/-- Rest and quotient of numbers that are not negative. -/
theorem g_remP {x y : Operand} {t yt : TypeId} {k : IntKind} {a b : Int} (hx : evA env x = some (.int k a)) (hy : evA env y = some (.int k b)) (h : 0 ≤ a ∧ 0 < b) :
    GOp P ro ⟨dst, .binOp .rem t x y yt, ty, pos, after, guard⟩ env σ (Is (.int k (a % b)) σ) :=
  g_rem hx hy (by omega) (Int.tmod_eq_emod_of_nonneg h.1)
theorem g_quoP {x y : Operand} {t yt : TypeId} {a b : Int} (hx : evA env x = some (.int .i64 a)) (hy : evA env y = some (.int .i64 b)) (h : 0 ≤ a ∧ 0 < b) (hm : a ≤ 9223372036854775807) :
    GOp P ro ⟨dst, .binOp .quo t x y yt, ty, pos, after, guard⟩ env σ (Is (.int .i64 (a / b)) σ) :=
  g_quo hx hy (by omega) (Int.tdiv_eq_ediv_of_nonneg h.1) (by
    have h1 := Int.ediv_le_self b h.1
    have h2 := Int.ediv_nonneg h.1 (show 0 ≤ b by omega)
    omega)
end
end Go.Proofs.Ytobcnochlkdpaaa
