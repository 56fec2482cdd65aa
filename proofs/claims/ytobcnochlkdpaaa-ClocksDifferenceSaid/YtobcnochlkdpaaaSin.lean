/- A map's literal: an element laid in. -/
import Derived.Test.YtobcnochlkdpaaaSj
namespace Go.Proofs.Ytobcnochlkdpaaa
set_option linter.unusedSimpArgs false
set_option linter.unusedVariables false
section
variable {P : Program} {ro : Option Nat} {env : Env} {σ σ' : List Ent} {dst : Option Tmp} {ty : TypeId} {pos : String} {after : Array Edge} {guard : Option (Nat × Bool)}
theorem g_insert {t et : TypeId} {x ix y : Operand} {b n : Nat} {f f' : Int → Option AV} {k : Int} {v : AV} (ht : mapOf P t = some et) (hx : evA env x = some (.mp b)) (hi : evA env ix = some (.int .i64 k)) (hy : evA env y = some v) (hu : Upd σ (.imap b f n) (.imap b f' (if (f k).isSome then n else n + 1)) σ') (hf : updA f k v = f') :
    GOp P ro ⟨dst, .insert t x ix y, ty, pos, after, guard⟩ env σ (Is (.raw undef) σ') :=
  gop_run (by intro c h; cases h) fun X M a w hg ho => by
    have h1 := ho x (by simp [Op.operands]) _ hx
    have h2 := ho ix (by simp [Op.operands]) _ hi
    have h3 := ho y (by simp [Op.operands]) _ hy
    simp only [VRel] at h1 h2
    obtain ⟨kt, e1, e2⟩ := mapOf_spec ht
    obtain ⟨g, hg1, hg2⟩ := hg.ent _ hu.mem
    obtain ⟨w', hr, hm', hgr, hsz, _⟩ := hg1.update (P := P) e1 e2 k (a.eval y)
    refine ⟨M, undef, w', .raw undef, σ', Mem.le_refl M, ?_, by simp [VRel], .mk, .inr ⟨?_, rfl⟩⟩
    · refine hg.upd hu hgr.os hgr.tape hgr.output (fun q hq hne => hgr.block q hq (fun e => hne e.symm)) ⟨upd g k (a.eval y), ?_, fun q => ?_⟩ (.inl rfl)
      · have hk := hg2 k
        have e : (g k).isSome = (f k).isSome := by cases hf : f k <;> cases hgk : g k <;> simp only [hf, hgk] at hk <;> rfl
        rw [e] at hm'
        exact hm'
      · rw [← hf]
        unfold updA upd
        by_cases hq : q = k
        · simp only [if_pos hq]; exact h3
        · simp only [if_neg hq]; exact hg2 q
    · simp [execOp, h1, h2, Sem.run_bind, hr]
end
end Go.Proofs.Ytobcnochlkdpaaa
