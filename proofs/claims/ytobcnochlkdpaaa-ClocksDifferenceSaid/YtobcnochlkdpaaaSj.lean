/- A logic of abstract values: maps keyed by int. -/
import Derived.Test.YtobcnochlkdpaaaSi
namespace Go.Proofs.Ytobcnochlkdpaaa
set_option linter.unusedSimpArgs false
set_option linter.unusedVariables false

def updA (f : Int → Option AV) (k : Int) (v : AV) : Int → Option AV := fun q => if q = k then some v else f q

/-- A set. -/
def boolM (S : Int → Bool) : Int → Option AV := fun q => if S q then some (.bool true) else none
theorem boolM_getD (S : Int → Bool) (q : Int) : (boolM S q).getD (.bool false) = .bool (S q) := by unfold boolM; cases S q <;> rfl
theorem boolM_upd (S : Int → Bool) (k : Int) : updA (boolM S) k (.bool true) = boolM (fun q => S q || q == k) := by
  funext q
  unfold updA boolM
  by_cases h : q = k
  · subst h; simp
  · have : (q == k) = false := by simpa using h
    simp [h, this]
theorem boolM_list (l : List Int) (k : Int) : updA (boolM l.contains) k (.bool true) = boolM (l ++ [k]).contains := by
  rw [boolM_upd]; congr 1; funext q; simp only [List.contains_append, List.contains_cons, List.contains_nil, Bool.or_false]
theorem boolM_none : (fun _ => none : Int → Option AV) = boolM ([] : List Int).contains := by funext q; rfl
/-- Numbers, 0 for what is not there. -/
def intM (K : Int → Int) : Int → Option AV := fun q => if K q = 0 then none else some (.int .i64 (K q))
theorem intM_getD (K : Int → Int) (q : Int) : (intM K q).getD (.int .i64 0) = .int .i64 (K q) := by
  unfold intM; split
  · rename_i h; rw [h]; rfl
  · rfl
theorem intM_upd (K : Int → Int) (k v : Int) (hv : v ≠ 0) : updA (intM K) k (.int .i64 v) = intM (fun q => if q = k then v else K q) := by
  funext q
  unfold updA intM
  by_cases h : q = k
  · simp [h, hv]
  · simp [h]
theorem intM_none : (fun _ => none : Int → Option AV) = intM (fun _ => 0) := by funext q; rfl

section
variable {P : Program} {ro : Option Nat} {env : Env} {σ σ' : List Ent} {o : Oper} {dst : Option Tmp} {ty : TypeId} {pos : String} {after : Array Edge} {guard : Option (Nat × Bool)}

inductive Mapped (σ : List Ent) : AV → List Ent → Prop
  | mk (b : Nat) : Mapped σ (.mp b) (.imap b (fun _ => none) 0 :: σ)
theorem g_makeMap {t : TypeId} : GOp P ro ⟨dst, .makeMap t none, ty, pos, after, guard⟩ env σ (Mapped σ) :=
  gop_run (by intro c h; cases h) fun X M a w hg ho => by
    refine ⟨M, .map (some w.heap.size), w.alloc (.map #[] 0), .mp w.heap.size, .imap w.heap.size (fun _ => none) 0 :: σ, Mem.le_refl M, ?_, by simp [VRel], .mk _, .inl ?_⟩
    · exact hg.alloc _ _ rfl ⟨_, MapN.made w, fun k => trivial⟩
    · simp [execOp, Instr.makeMap, newObj, Sem.run_bind, Sem.run]

def mapOf (P : Program) (t : TypeId) : Option TypeId := match P.underlying t with
  | some (.map kt et) => match P.underlying kt with
    | some (.int .i64) => some et
    | _ => none
  | _ => none
theorem mapOf_spec {t et : TypeId} (h : mapOf P t = some et) : ∃ kt, P.underlying t = some (.map kt et) ∧ P.underlying kt = some (.int .i64) := by
  unfold mapOf at h
  split at h
  · rename_i kt et' h1
    split at h
    · rename_i h2; cases h; exact ⟨kt, h1, h2⟩
    · cases h
  · cases h
def zeroV (P : Program) (t : TypeId) : Option AV := match (P.info? t).bind (·.zero) with
  | some (.agg cs) => some (.agg (cs.toList.map cA))
  | some v => some (cA v)
  | none => none
theorem zeroV_spec {t : TypeId} {z : AV} (h : zeroV P t = some z) : ∃ v, (∀ w, (zeroValue t).run P w = .ok v w) ∧ ∀ M, VRel M z v := by
  unfold zeroV at h
  cases hi : P.info? t with
  | none => rw [hi] at h; cases h
  | some i =>
    rw [hi] at h
    simp only [Option.bind_some] at h
    cases hz : i.zero with
    | none => rw [hz] at h; cases h
    | some v =>
      rw [hz] at h
      refine ⟨v, fun w => by simp [zeroValue, typeInfo, hi, hz, Sem.run_bind], fun M => ?_⟩
      split at h
      · rename_i cs hcs; cases hcs; cases h; simp only [VRel]; exact ⟨cs, rfl, cAs_rel M _⟩
      · rename_i hcs; cases hcs; cases h; exact cA_rel M _
      · rename_i hcs; cases hcs
theorem g_lookup {t et : TypeId} {x ix : Operand} {b n : Nat} {f : Int → Option AV} {k : Int} {z v : AV} (ht : mapOf P t = some et) (hx : evA env x = some (.mp b)) (hm : Ent.imap b f n ∈ σ) (hi : evA env ix = some (.int .i64 k)) (hz : zeroV P et = some z) (hv : (f k).getD z = v) :
    GOp P ro ⟨dst, .lookup t x ix false, ty, pos, after, guard⟩ env σ (Is v σ) :=
  gop_pure v (by intro c h; cases h) fun X M a w hg ho => by
    have h1 := ho x (by simp [Op.operands]) _ hx
    have h2 := ho ix (by simp [Op.operands]) _ hi
    simp only [VRel] at h1 h2
    obtain ⟨kt, e1, e2⟩ := mapOf_spec ht
    obtain ⟨zv, hz1, hz2⟩ := zeroV_spec hz
    obtain ⟨g, hg1, hg2⟩ := hg.ent _ hm
    have hr := hg1.lookup (P := P) e1 e2 hz1 k
    refine ⟨(g k).getD zv, ?_, by simp [execOp, h1, h2, Sem.run_bind, hr]⟩
    have := hg2 k
    rw [← hv]
    cases hf : f k <;> cases hgk : g k <;> simp only [hf, hgk] at this
    · exact hz2 M
    · exact this
theorem g_lookupOk {t et : TypeId} {x ix : Operand} {b n : Nat} {f : Int → Option AV} {k : Int} {z v : AV} {ok : Bool} (ht : mapOf P t = some et) (hx : evA env x = some (.mp b)) (hm : Ent.imap b f n ∈ σ) (hi : evA env ix = some (.int .i64 k)) (hz : zeroV P et = some z) (hv : (f k).getD z = v) (hok : (f k).isSome = ok) :
    GOp P ro ⟨dst, .lookup t x ix true, ty, pos, after, guard⟩ env σ (Is (.tup [v, .bool ok]) σ) :=
  gop_pure _ (by intro c h; cases h) fun X M a w hg ho => by
    have h1 := ho x (by simp [Op.operands]) _ hx
    have h2 := ho ix (by simp [Op.operands]) _ hi
    simp only [VRel] at h1 h2
    obtain ⟨kt, e1, e2⟩ := mapOf_spec ht
    obtain ⟨zv, hz1, hz2⟩ := zeroV_spec hz
    obtain ⟨g, hg1, hg2⟩ := hg.ent _ hm
    have hr := hg1.lookup_ok (P := P) e1 e2 hz1 k
    refine ⟨.tuple #[(g k).getD zv, .bool (g k).isSome], ?_, by simp [execOp, h1, h2, Sem.run_bind, hr]⟩
    have := hg2 k
    simp only [VRel]
    refine ⟨_, rfl, ?_⟩
    have e3 : VRel M v ((g k).getD zv) ∧ (g k).isSome = ok := by
      rw [← hv, ← hok]
      cases hf : f k <;> cases hgk : g k <;> simp only [hf, hgk] at this
      · exact ⟨hz2 M, rfl⟩
      · exact ⟨this, rfl⟩
    simp only [VRels]
    exact ⟨_, _, rfl, e3.1, _, _, rfl, by rw [e3.2]; simp [VRel], rfl⟩
theorem g_mapUpdate {t et : TypeId} {x ix y : Operand} {b n : Nat} {f f' : Int → Option AV} {k : Int} {v : AV} (ht : mapOf P t = some et) (hx : evA env x = some (.mp b)) (hi : evA env ix = some (.int .i64 k)) (hy : evA env y = some v) (hu : Upd σ (.imap b f n) (.imap b f' (if (f k).isSome then n else n + 1)) σ') (hf : updA f k v = f') :
    GOp P ro ⟨dst, .mapUpdate t x ix y, ty, pos, after, guard⟩ env σ (Is (.raw undef) σ') :=
  gop_run (by intro c h; cases h) fun X M a w hg ho => by
    have h1 := ho x (by simp [Op.operands]) _ hx
    have h2 := ho ix (by simp [Op.operands]) _ hi
    have h3 := ho y (by simp [Op.operands]) _ hy
    simp only [VRel] at h1 h2
    obtain ⟨kt, e1, e2⟩ := mapOf_spec ht
    obtain ⟨g, hg1, hg2⟩ := hg.ent _ hu.mem
    obtain ⟨w', hr, hm', hgr, hsz, _⟩ := hg1.update (P := P) e1 e2 k (a.eval y)
    refine ⟨M, undef, w', .raw undef, σ', Mem.le_refl M, ?_, by simp [VRel], .mk, .inr ⟨?_, rfl⟩⟩
    · refine hg.upd hu hgr.os hgr.tape hgr.output (fun q hq hne => hgr.block q hq (fun e => hne e.symm)) ⟨upd g k (a.eval y), ?_, fun q => ?_⟩ (.inl rfl)
      · have hk := hg2 k
        have e : (g k).isSome = (f k).isSome := by cases hf : f k <;> cases hgk : g k <;> simp only [hf, hgk] at hk <;> rfl
        rw [e] at hm'
        exact hm'
      · rw [← hf]
        unfold updA upd
        by_cases hq : q = k
        · simp only [if_pos hq]; exact h3
        · simp only [if_neg hq]; exact hg2 q
    · simp [execOp, h1, h2, Sem.run_bind, hr]
theorem g_lenMap {x : Operand} {t et : TypeId} {b n : Nat} {f : Int → Option AV} (ht : mapOf P t = some et) (hx : evA env x = some (.mp b)) (hm : Ent.imap b f n ∈ σ) :
    GOp P ro ⟨dst, .call { callee := .builtin .len, args := #[x], argTypes := #[t] }, ty, pos, after, guard⟩ env σ (Is (.int .i64 (n : Int)) σ) :=
  gop_pure _ (by intro c h; cases h) fun X M en w hg ho => by
    have h1 := ho x (by simp [Op.operands, Call.operands]) _ hx
    simp only [VRel] at h1
    obtain ⟨kt, e1, e2⟩ := mapOf_spec ht
    obtain ⟨g, hg1, _⟩ := hg.ent _ hm
    obtain ⟨es, clock, hb, hs⟩ := hg1.len
    refine ⟨.int .i64 n, by simp [VRel], ?_⟩
    simp [execOp, resolve, invoke, builtin, Builtin.len_, Sem.run_bind, run_underlying e1, h1, goInt, MapKept.run_getObj_map hb, hs]
end

section
variable {P : Program} {ro : Option Nat} {Q : Exit → St → Prop} {ops : Array Oper} {rest : List Oper} {o : Oper} {env : Env} {σ : List Ent} {mk : List Nat} {n : Nat}
theorem exl_map {d : Nat} (hgd : o.guard = none) (hd : o.dst = some d) (hn : Nat.blt d n = true) (hg : GOp P ro o env σ (Mapped σ)) (h : ∀ b, EXL P ro ops rest Q ⟨(d, .mp b) :: env, .imap b (fun _ => none) 0 :: σ, mk, n⟩) : EXL P ro ops (o :: rest) Q ⟨env, σ, mk, n⟩ :=
  exl_plain (s := ⟨env, σ, mk, n⟩) hgd (dst_ok hd hn) hg (by rintro _ _ ⟨b⟩; rw [hd]; exact h b)
end
end Go.Proofs.Ytobcnochlkdpaaa
