/- A logic of abstract values: more is owned than a round is told of; the order of what is owned does not matter. -/
import Derived.Test.YtobcnochlkdpaaaSr
namespace Go.Proofs.Ytobcnochlkdpaaa
set_option linter.unusedSimpArgs false
set_option linter.unusedVariables false

theorem Good.perm {X : Fx} {M : Mem} {σ σ' : List Ent} {w : World} (h : Good X M σ w) (hp : σ.Perm σ') : Good X M σ' w :=
  ⟨h.os, h.tape, h.output, h.mem, h.frm, h.dis, fun e he => h.ent e (hp.mem_iff.2 he), fun e he => h.own e (hp.mem_iff.2 he), (hp.filterMap Ent.block).nodup_iff.1 h.nod⟩
theorem Good.framed {X : Fx} {M : Mem} {σ τ : List Ent} {w : World} (hg : Good X M (σ ++ τ) w) : ∃ X', Good X' M σ w ∧ ∀ M' σ1 w', M.le M' → Good X' M' σ1 w' → Good X M' (σ1 ++ τ) w' := by
  have hmem : ∀ e ∈ τ, ∀ b, e.block = some b → (Ent.mem w τ) b = w.heap[b]? := fun e he b hb => by
    unfold Ent.mem; rw [if_pos (List.mem_map.2 ⟨e, he, hb⟩)]
  obtain ⟨X', hX'⟩ : ∃ X' : Fx, X' = { w0 := X.w0, fr := fun b => (X.fr b).or (Ent.mem w τ b) } := ⟨_, rfl⟩
  have hnod := hg.nod
  rw [List.filterMap_append, List.nodup_append] at hnod
  have hmt : ∀ b o, Ent.mem w τ b = some o → ∃ e ∈ τ, e.block = some b := fun b o ho => by
    unfold Ent.mem at ho
    split at ho
    · rename_i hb
      obtain ⟨e, he, hb⟩ := List.mem_map.1 hb
      exact ⟨e, he, hb⟩
    · cases ho
  have hg' : Good X' M σ w := by
    refine ⟨by rw [hX']; exact hg.os, by rw [hX']; exact hg.tape, by rw [hX']; exact hg.output, hg.mem, ?_, ?_, fun e he => hg.ent e (List.mem_append.2 (.inl he)), ?_, hnod.1⟩
    · intro b o ho
      rw [hX'] at ho
      simp only at ho
      cases hf : X.fr b with
      | some o' => rw [hf] at ho; simp only [Option.some_or, Option.some.injEq] at ho; subst ho; exact hg.frm b _ hf
      | none =>
        rw [hf, Option.none_or] at ho
        unfold Ent.mem at ho
        split at ho
        · exact ho
        · cases ho
    · intro b o ho
      rw [hX']
      simp only [hg.dis b o ho, Option.none_or]
      cases hm : Ent.mem w τ b with
      | none => rfl
      | some o' =>
        obtain ⟨e', he', hb'⟩ := hmt b o' hm
        have := (hg.own e' (List.mem_append.2 (.inr he')) b hb').1
        rw [ho] at this; cases this
    · intro e he b hb
      obtain ⟨k1, k2⟩ := hg.own e (List.mem_append.2 (.inl he)) b hb
      refine ⟨k1, ?_⟩
      rw [hX']
      simp only [k2, Option.none_or]
      cases hm : Ent.mem w τ b with
      | none => rfl
      | some o =>
        obtain ⟨e', he', hb'⟩ := hmt b o hm
        exact absurd rfl (hnod.2.2 b (List.mem_filterMap.2 ⟨e, he, hb⟩) b (List.mem_filterMap.2 ⟨e', he', hb'⟩))
  refine ⟨X', hg', fun M' σ1 w' hm hg1 => ?_⟩
  have kept : ∀ e ∈ τ, ∀ b, e.block = some b → w'.heap[b]? = w.heap[b]? := fun e he b hb => by
    have hlt := Ent.block_lt (hg.ent e (List.mem_append.2 (.inr he))) hb
    have ho : w.heap[b]? = some w.heap[b] := Array.getElem?_eq_getElem hlt
    rw [ho]
    refine hg1.frm b _ ?_
    rw [hX']
    have := (hg.own e (List.mem_append.2 (.inr he)) b hb).2
    simp only [this, Option.none_or, hmem e he b hb, ho]
  refine ⟨by have := hg1.os; rw [hX'] at this; exact this, by have := hg1.tape; rw [hX'] at this; exact this, by have := hg1.output; rw [hX'] at this; exact this, hg1.mem, ?_, ?_, ?_, ?_, ?_⟩
  · intro b o ho
    refine hg1.frm b o ?_
    rw [hX']; simp [ho]
  · intro b o ho
    have := hg1.dis b o ho
    rw [hX'] at this
    simp only at this
    cases hf : X.fr b with
    | none => rfl
    | some o => rw [hf] at this; cases this
  · intro e he
    rcases List.mem_append.1 he with he | he
    · exact hg1.ent e he
    · exact ((hg.ent e (List.mem_append.2 (.inr he))).same (kept e he)).mono hm
  · intro e he b hb
    rcases List.mem_append.1 he with he | he
    · obtain ⟨k1, k2⟩ := hg1.own e he b hb
      refine ⟨k1, ?_⟩
      rw [hX'] at k2
      simp only at k2
      cases hf : X.fr b with
      | none => rfl
      | some o => rw [hf] at k2; cases k2
    · obtain ⟨k1, k2⟩ := hg.own e (List.mem_append.2 (.inr he)) b hb
      refine ⟨?_, k2⟩
      cases hM : M' b with
      | none => rfl
      | some o =>
        have hlt := Ent.block_lt (hg.ent e (List.mem_append.2 (.inr he))) hb
        have hd := hg1.dis b o hM
        rw [hX'] at hd
        simp only [k2, Option.none_or, hmem e he b hb, Array.getElem?_eq_getElem hlt] at hd
        cases hd
  · rw [List.filterMap_append, List.nodup_append]
    refine ⟨hg1.nod, hnod.2.1, fun b hb b' hb' heq => ?_⟩
    subst heq
    obtain ⟨e1, he1, hb1⟩ := List.mem_filterMap.1 hb
    obtain ⟨e2, he2, hb2⟩ := List.mem_filterMap.1 hb'
    have k2 := (hg1.own e1 he1 b hb1).2
    rw [hX'] at k2
    have := (hg.own e2 (List.mem_append.2 (.inr he2)) b hb2).2
    have hlt := Ent.block_lt (hg.ent e2 (List.mem_append.2 (.inr he2))) hb2
    simp only [this, Option.none_or, hmem e2 he2 b hb2, Array.getElem?_eq_getElem hlt] at k2
    cases k2

theorem SRound.frame {P : Program} {l : Nat} {args : List AV} {σ : List Ent} {Q : AV → List Ent → Prop} (τ : List Ent) (h : SRound P l args σ Q) : SRound P l args (σ ++ τ) fun r σ' => ∃ σ1, σ' = σ1 ++ τ ∧ Q r σ1 :=
  ⟨fun X M w vs hg ha => by
    obtain ⟨X', h1, h2⟩ := hg.framed
    obtain ⟨f, tmps, asg, body, k1, k2⟩ := h.run X' M w vs h1 ha
    exact ⟨f, tmps, asg, body, k1, k2.mono fun _ _ ⟨M', σ', r, v, q1, q2, q3, q4, q5⟩ => ⟨M', σ' ++ τ, r, v, q1, h2 M' σ' _ q1 q2, q3, q4, σ', rfl, q5⟩⟩⟩
/-- More is owned, ahead of the rest. -/
theorem SRound.front {P : Program} {l : Nat} {args : List AV} {σ : List Ent} {Q : AV → List Ent → Prop} (τ : List Ent) (h : SRound P l args σ Q) : SRound P l args (τ ++ σ) fun r σ' => ∃ σ1, σ' = τ ++ σ1 ∧ Q r σ1 :=
  ⟨fun X M w vs hg ha => by
    obtain ⟨f, tmps, asg, body, k1, k2⟩ := (h.frame τ).run X M w vs (hg.perm List.perm_append_comm) ha
    exact ⟨f, tmps, asg, body, k1, k2.mono fun _ _ ⟨M', σ', r, v, q1, q2, q3, q4, σ1, e, q5⟩ => ⟨M', τ ++ σ1, r, v, q1, by subst e; exact q2.perm List.perm_append_comm, q3, q4, σ1, rfl, q5⟩⟩⟩
theorem SCall.front {P : Program} {f : FuncId} {args : List AV} {σ : List Ent} {Q : AV → List Ent → Prop} (τ : List Ent) (h : SCall P f args σ Q) : SCall P f args (τ ++ σ) fun r σ' => ∃ σ1, σ' = τ ++ σ1 ∧ Q r σ1 :=
  ⟨fun X M w vs hg ha => ((h.frame τ).run X M w vs (hg.perm List.perm_append_comm) ha).mono fun _ _ ⟨M', σ', r, v, q1, q2, q3, q4, σ1, e, q5⟩ => ⟨M', τ ++ σ1, r, v, q1, by subst e; exact q2.perm List.perm_append_comm, q3, q4, σ1, rfl, q5⟩⟩
/-! ### Arrays as values; the greatest of three -/
section
variable {P : Program} {ro : Option Nat} {env : Env} {σ σ' : List Ent} {dst : Option Tmp} {ty : TypeId} {pos : String} {after : Array Edge} {guard : Option (Nat × Bool)}
theorem g_max3 {x y z : Operand} {ats : Array TypeId} {k k' k2 : IntKind} {a b c : Int} (hx : evA env x = some (.int k a)) (hy : evA env y = some (.int k' b)) (hz : evA env z = some (.int k2 c)) :
    GOp P ro ⟨dst, .call { callee := .builtin .max, args := #[x, y, z], argTypes := ats }, ty, pos, after, guard⟩ env σ (Is (.int k (max (max a b) c)) σ) :=
  gop_pure _ (by intro c h; cases h) fun X M e w hg ho => by
    have h1 := ho x (by simp [Op.operands, Call.operands]) _ hx
    have h2 := ho y (by simp [Op.operands, Call.operands]) _ hy
    have h3 := ho z (by simp [Op.operands, Call.operands]) _ hz
    simp only [VRel] at h1 h2 h3
    refine ⟨.int k (max (max a b) c), by simp [VRel], ?_⟩
    have e : (if c > (if b > a then b else a) then c else (if b > a then b else a)) = max (max a b) c := by split <;> split <;> omega
    have hr : (Builtin.max_ ats ty #[.int k a, .int k' b, .int k2 c]).run P w = .ok (.int k (if c > (if b > a then b else a) then c else (if b > a then b else a))) w := by
      by_cases h : b > a
      · by_cases h' : c > b
        · simp [Builtin.max_, Builtin.max2, h, h']
        · simp [Builtin.max_, Builtin.max2, h, h']
      · by_cases h' : c > a
        · simp [Builtin.max_, Builtin.max2, h, h']
        · simp [Builtin.max_, Builtin.max2, h, h']
    simp [execOp, resolve, invoke, builtin, h1, h2, h3, Sem.run_bind, hr, e]
def arrOf (P : Program) (t : TypeId) : Option Nat := match P.underlying t with
  | some (.array _ e) => (P.info? e).map (·.size)
  | _ => none
theorem g_buildArr {t : TypeId} {parts : Array (Nat × Operand)} {sz : Nat} {z L : List AV} {l : List (Nat × AV)} (hp : arrOf P t = some sz) (hz : zeroA P t = some z) (hl : partsA env parts.toList = some l) (hf : fillA (fun i => some (i * sz, sz)) z l = some L) :
    GOp P ro ⟨dst, .build t parts, ty, pos, after, guard⟩ env σ (Is (.agg L) σ) :=
  gop_pure _ (by intro c h; cases h) fun X M a w hg ho => by
    obtain ⟨i, zv, hi, hzv, rfl⟩ := zeroA_spec hz
    obtain ⟨k1, k2⟩ := partsA_rel (a := a) (M := M) (fun x hx v hv => ho x (by simpa [Op.operands] using hx) v hv) hl
    obtain ⟨c', h1, h2⟩ := fill_rel (fun i => some (i * sz, sz)) l (parts.toList.map fun p => (p.1, a.eval p.2)) _ zv.cells L (cAs_rel M _) k1 k2 hf
    refine ⟨.agg c', ⟨c', rfl, h2⟩, ?_⟩
    unfold arrOf at hp
    cases hu : P.underlying t with
    | none => rw [hu] at hp; cases hp
    | some d =>
      rw [hu] at hp
      cases d <;> first | cases hp | skip
      rename_i n e
      simp only [Option.map_eq_some_iff] at hp
      obtain ⟨j, hj, rfl⟩ := hp
      simp only [execOp, Instr.build, Sem.run_bind, zeroValue, typeInfo, run_program, Result.andThen_ok, hi, Sem.run_pure, hzv, run_underlying hu, sizeOf, hj]
      simp [h1, Sem.run_bind]
end
end Go.Proofs.Ytobcnochlkdpaaa
