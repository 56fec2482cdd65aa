/- A logic of abstract values: an owned row that lies in other owned cells is written no more. -/
import Derived.Test.YtobcnochlkdpaaaSo
namespace Go.Proofs.Ytobcnochlkdpaaa
set_option linter.unusedSimpArgs false
set_option linter.unusedVariables false

/-- The value v read as x in owned cells. -/
inductive ShutEnts (v : Value) (x : AV) : List Ent → List Ent → Prop
  | nil : ShutEnts v x [] []
  | same {e : Ent} {σ σ' : List Ent} (h : ShutEnts v x σ σ') : ShutEnts v x (e :: σ) (e :: σ')
  | cells {b : Nat} {l l' : List AV} {t : TypeId} {σ σ' : List Ent} (hc : Cv v x l l') (h : ShutEnts v x σ σ') : ShutEnts v x (.cells b l t :: σ) (.cells b l' t :: σ')
theorem ShutEnts.refl {v : Value} {x : AV} : ∀ σ : List Ent, ShutEnts v x σ σ
  | [] => .nil
  | _ :: σ => .same (ShutEnts.refl σ)
theorem ShutEnts.blocks {v : Value} {x : AV} {σ σ' : List Ent} (h : ShutEnts v x σ σ') : σ'.map Ent.block = σ.map Ent.block := by
  induction h with
  | nil => rfl
  | same _ ih => simp [ih]
  | cells _ _ ih => simp [ih, Ent.block]
theorem ShutEnts.ents {v : Value} {x : AV} {σ σ' : List Ent} {M : Mem} {w : World} (hx : VRel M x v) (h : ShutEnts v x σ σ') : (∀ e ∈ σ, e.at M w) → ∀ e ∈ σ', e.at M w := by
  induction h with
  | nil => exact fun h => h
  | same _ ih =>
    intro ha e he
    rcases List.mem_cons.1 he with rfl | he
    · exact ha _ (by simp)
    · exact ih (fun e he => ha e (by simp [he])) e he
  | @cells b l l' t σ σ' hc _ ih =>
    intro ha e he
    rcases List.mem_cons.1 he with rfl | he
    · obtain ⟨c, h1, h2⟩ := ha (.cells b l t) (by simp)
      exact ⟨c, h1, hc.rel hx h2⟩
    · exact ih (fun e he => ha e (by simp [he])) e he
theorem filterMap_blocks : ∀ σ : List Ent, σ.filterMap Ent.block = (σ.map Ent.block).filterMap id
  | [] => rfl
  | e :: σ => by
    have ih := filterMap_blocks σ
    cases h : e.block with
    | none => rw [List.filterMap_cons_none h, ih]; simp [h]
    | some b => rw [List.filterMap_cons_some h, ih]; simp [h]
theorem Good.shutE {X : Fx} {M : Mem} {σ σ' : List Ent} {w : World} {v : Value} {x : AV} (hx : VRel M x v) (hg : Good X M σ w) (h : ShutEnts v x σ σ') : Good X M σ' w := by
  have hb := h.blocks
  refine ⟨hg.os, hg.tape, hg.output, hg.mem, hg.frm, hg.dis, h.ents hx hg.ent, fun e he b hb' => ?_, ?_⟩
  · have hm : some b ∈ σ'.map Ent.block := List.mem_map.2 ⟨e, he, hb'⟩
    rw [hb] at hm
    obtain ⟨e', he', hb2⟩ := List.mem_map.1 hm
    exact hg.own e' he' b hb2
  · rw [filterMap_blocks, hb, ← filterMap_blocks]; exact hg.nod
theorem ex_shut {P : Program} {ro : Option Nat} {env : Env} {σ σ1 σ' : List Ent} {c : Code} {Q : Exit → St → Prop} {mk : List Nat} {n : Nat} {v : Value} {e : TypeId} {sz : Nat} {l : List (List AV)} {env' : Env} (hr : Rem σ (.row v e sz l) σ1) (hs : ShutEnts v (.dl sz l) σ1 σ') (he : SealEnv env v (.dl sz l) env') (h : EX P ro c Q ⟨env', σ', mk, n⟩) : EX P ro c Q ⟨env, σ, mk, n⟩ :=
  ⟨fun X M a w hs' => by
    obtain ⟨M1, h1, h2, h3⟩ := hs'.good.shut hr
    refine Go.wpIn_mono (h.run X M1 a w ⟨h2.shutE h3 hs, hs'.size, hs'.defs, he.rel h1 h3 hs'.env⟩) ?_
    rintro e a' w' ⟨M', s', hm, hs2, hq⟩
    exact ⟨M', s', Mem.le_trans h1 hm, hs2, hq⟩⟩

theorem exl_shut {P : Program} {ro : Option Nat} {env : Env} {σ σ1 σ' : List Ent} {ops : Array Oper} {rest : List Oper} {Q : Exit → St → Prop} {mk : List Nat} {n : Nat} {v : Value} {e : TypeId} {sz : Nat} {l : List (List AV)} {env' : Env} (hr : Rem σ (.row v e sz l) σ1) (hs : ShutEnts v (.dl sz l) σ1 σ') (he : SealEnv env v (.dl sz l) env') (h : EXL P ro ops rest Q ⟨env', σ', mk, n⟩) : EXL P ro ops rest Q ⟨env, σ, mk, n⟩ :=
  ⟨fun X M a w hs' => by
    obtain ⟨M1, h1, h2, h3⟩ := hs'.good.shut hr
    exact wpListIn_mono (fun _ _ _ ⟨M', s', hm, hs2, hq⟩ => ⟨M', s', Mem.le_trans h1 hm, hs2, hq⟩) _ _ _ (h.run X M1 a w ⟨h2.shutE h3 hs, hs'.size, hs'.defs, he.rel h1 h3 hs'.env⟩)⟩
theorem exl_weaken {P : Program} {ro : Option Nat} {ops : Array Oper} {rest : List Oper} {Q : Exit → St → Prop} {s s' : St} (hl : s.le s') (h : EXL P ro ops rest Q s') : EXL P ro ops rest Q s := ⟨fun X M a w hs => h.run X M a w (hs.weaken hl)⟩

/-- An integer of another kind becomes an int. -/
theorem g_conv64 {P : Program} {ro : Option Nat} {env : Env} {σ : List Ent} {dst : Option Tmp} {ty : TypeId} {pos : String} {after : Array Edge} {guard : Option (Nat × Bool)} {s t : TypeId} {x : Operand} {k' ks : IntKind} {n : Int} (hs : P.underlying s = some (.int ks)) (ht : P.underlying t = some (.int .i64)) (hx : evA env x = some (.int k' n)) (hn : -9223372036854775808 ≤ n ∧ n ≤ 9223372036854775807) :
    GOp P ro ⟨dst, .convert s t x, ty, pos, after, guard⟩ env σ (Is (.int .i64 n) σ) :=
  gop_pure _ (by intro c h; cases h) fun X M e w hg ho => by
    have h1 := ho x (by simp [Op.operands]) _ hx
    simp only [VRel] at h1
    refine ⟨.int .i64 n, by simp [VRel], ?_⟩
    have hw : IntKind.i64.wrap n = n := wrap64 hn
    simp [execOp, h1, convert, Sem.run_bind, run_underlying hs, run_underlying ht, Conv.intToInt, hw]
end Go.Proofs.Ytobcnochlkdpaaa
