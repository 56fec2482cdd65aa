/- A logic of abstract values, sixth part: parts of slices, tuples, function values; calls; functions. -/
import Derived.Test.YtobcnochlkdpaaaSe
namespace Go.Proofs.Ytobcnochlkdpaaa
set_option linter.unusedSimpArgs false
set_option linter.unusedVariables false

section
variable {P : Program} {ro : Option Nat} {env : Env} {σ σ' : List Ent} {o : Oper} {dst : Option Tmp} {ty : TypeId} {pos : String} {after : Array Edge} {guard : Option (Nat × Bool)}

/-- Bounds of a slice expression. -/
def boundA (env : Env) (d : Nat) : Option Operand → Option Int
  | none => some d
  | some x => match evA env x with
    | some (.int _ n) => some n
    | _ => none
theorem g_sliceDl {t e : TypeId} {sz : Nat} {x : Operand} {lo hi : Option Operand} {L R : List (List AV)} {l h : Nat} {li hj : Int} (ht : elemOf P t = some (e, sz)) (hx : evA env x = some (.dl sz L)) (hlo : boundA env 0 lo = some li) (hhi : boundA env L.length hi = some hj)
    (hl : li = (l : Int)) (hh : hj = (h : Int)) (hlh : l ≤ h) (hhL : h ≤ L.length) (hR : (L.take h).drop l = R) :
    GOp P ro ⟨dst, .slice t x lo hi none, ty, pos, after, guard⟩ env σ (Is (.dl sz R) σ) :=
  gop_pure _ (by intro c h; cases h) fun X M a w hg ho => by
    have h1 := ho x (by simp [Op.operands]) _ hx
    simp only [VRel] at h1
    obtain ⟨ad, cap, hv, h2, h3, h4, h5⟩ := h1
    obtain ⟨hue, inf, hinf, hsz⟩ := elemOf_spec ht
    subst hR hl hh
    have hlen : ((L.take h).drop l).length = h - l := by simp; omega
    have elo : ∀ (y : Operand), lo = some y → ∃ k, a.eval y = .int k (l : Int) := fun y hy => by
      subst hy
      simp only [boundA] at hlo
      split at hlo
      · rename_i k n he
        cases hlo
        have := ho y (by simp [Op.operands]) _ he
        simp only [VRel] at this
        exact ⟨_, this⟩
      · cases hlo
    have ehi : ∀ (y : Operand), hi = some y → ∃ k, a.eval y = .int k (h : Int) := fun y hy => by
      subst hy
      simp only [boundA] at hhi
      split at hhi
      · rename_i k n he
        cases hhi
        have := ho y (by simp [Op.operands]) _ he
        simp only [VRel] at this
        exact ⟨_, this⟩
      · cases hhi
    have ehn : hi = none → h = L.length := fun e => by subst e; simp only [boundA, Option.some.injEq] at hhi; omega
    have eln : lo = none → l = 0 := fun e => by subst e; simp only [boundA, Option.some.injEq] at hlo; omega
    refine ⟨.slice (if cap = l then ad else ad.map (·.add (l * sz))) (h - l) (cap - l), ?_, ?_⟩
    · simp only [VRel]
      refine ⟨_, _, by rw [hlen], by omega, by omega, fun y hy => h4 y (List.mem_of_mem_take (List.mem_of_mem_drop hy)), ?_⟩
      rcases h5 with rfl | ⟨b, off, rfl, hr⟩
      · left; simp
      · by_cases hc : cap = l
        · left
          have : h = l := by omega
          subst this
          exact List.eq_nil_of_length_eq_zero (by omega)
        · right
          refine ⟨b, off + l * sz, ?_, ?_⟩
          · rw [if_neg hc]; simp only [Option.map_some, Option.some.injEq]; unfold Addr.add; split <;> simp_all
          · exact RRel.drop l (fun y hy => h4 y (List.mem_of_mem_take hy)) (RRel.take h hr)
    · have hlc : h ≤ cap := by omega
      cases lo with
      | none =>
        have e0 := eln rfl
        subst e0
        cases hi with
        | none =>
          have e1 := ehn rfl
          subst e1
          simp [execOp, hv, Instr.sliceAt, Instr.slice, run_underlying hue, Instr.sliceBounds, Sem.run_bind, sizeOf, typeInfo, hinf, hsz]
        | some y =>
          obtain ⟨k, hy⟩ := ehi y rfl
          simp [execOp, hv, hy, Instr.sliceAt, Instr.slice, run_underlying hue, Instr.sliceBounds, Sem.run_bind, sizeOf, typeInfo, hinf, hsz, Instr.sliceBound, asIntOf, hlc]
      | some z =>
        obtain ⟨kz, hz⟩ := elo z rfl
        cases hi with
        | none =>
          have e1 := ehn rfl
          subst e1
          simp [execOp, hv, hz, Instr.sliceAt, Instr.slice, run_underlying hue, Instr.sliceBounds, Sem.run_bind, sizeOf, typeInfo, hinf, hsz, Instr.sliceBound, asIntOf, hlh]
        | some y =>
          obtain ⟨k, hy⟩ := ehi y rfl
          simp [execOp, hv, hz, hy, Instr.sliceAt, Instr.slice, run_underlying hue, Instr.sliceBounds, Sem.run_bind, sizeOf, typeInfo, hinf, hsz, Instr.sliceBound, asIntOf, hlc, hlh]

theorem g_extract {x : Operand} {ix : Nat} {l : List AV} {v : AV} (hx : evA env x = some (.tup l)) (hv : l[ix]? = some v) : GOp P ro ⟨dst, .extract x ix, ty, pos, after, guard⟩ env σ (Is v σ) :=
  gop_pure v (by intro c h; cases h) fun X M a w hg ho => by
    have h1 := ho x (by simp [Op.operands]) _ hx
    simp only [VRel] at h1
    obtain ⟨vs, e, h2⟩ := h1
    obtain ⟨u, h3, h4⟩ := h2.get hv
    exact ⟨u, h4, by simp [execOp, e, Instr.extract, Sem.run_bind, show vs[ix]? = some u by simpa using h3]⟩

def fieldOf (P : Program) (s f : Nat) : Option (Nat × Bool × Nat) := match P.underlying s with
  | some (.struct fs) => match fs[f]? with
    | some x => (tyOf P x.type).map fun p => (x.offset, p.1, p.2)
    | none => none
  | _ => none
theorem g_field1 {s f off sz : Nat} {x : Operand} {l : List AV} {v : AV} (ht : fieldOf P s f = some (off, false, sz)) (hx : evA env x = some (.agg l)) (hv : l[off]? = some v) : GOp P ro ⟨dst, .field s x f, ty, pos, after, guard⟩ env σ (Is v σ) :=
  gop_pure v (by intro c h; cases h) fun X M a w hg ho => by
    have h1 := ho x (by simp [Op.operands]) _ hx
    simp only [VRel] at h1
    obtain ⟨vs, e, h2⟩ := h1
    obtain ⟨u, h3, h4⟩ := h2.get hv
    unfold fieldOf at ht
    split at ht
    · rename_i fs hu
      split at ht
      · rename_i fd hf
        simp only [Option.map_eq_some_iff, Prod.mk.injEq] at ht
        obtain ⟨⟨b, n⟩, ht, rfl, rfl, rfl⟩ := ht
        obtain ⟨k1, k2⟩ := tyOf_spec ht w
        exact ⟨u, h4, by simp [execOp, e, Instr.field, Sem.run_bind, run_underlying hu, hf, asAgg, part, k1, show vs[fd.offset]? = some u by simpa using h3]⟩
      · cases ht
    · cases ht
theorem g_fieldAgg {s f off sz : Nat} {x : Operand} {l L : List AV} (ht : fieldOf P s f = some (off, true, sz)) (hx : evA env x = some (.agg l)) (hL : (l.drop off).take sz = L) : GOp P ro ⟨dst, .field s x f, ty, pos, after, guard⟩ env σ (Is (.agg L) σ) :=
  gop_pure _ (by intro c h; cases h) fun X M a w hg ho => by
    have h1 := ho x (by simp [Op.operands]) _ hx
    simp only [VRel] at h1
    obtain ⟨vs, e, h2⟩ := h1
    unfold fieldOf at ht
    split at ht
    · rename_i fs hu
      split at ht
      · rename_i fd hf
        simp only [Option.map_eq_some_iff, Prod.mk.injEq] at ht
        obtain ⟨⟨b, n⟩, ht, rfl, rfl, rfl⟩ := ht
        obtain ⟨k1, k2⟩ := tyOf_spec ht w
        refine ⟨.agg (vs.extract fd.offset (fd.offset + n)), ⟨_, rfl, ?_⟩, by simp [execOp, e, Instr.field, Sem.run_bind, run_underlying hu, hf, asAgg, part, k1, k2]⟩
        have := (h2.drop fd.offset).take n
        rw [hL] at this
        simpa [Array.toList_extract, List.extract_eq_take_drop] using this
      · cases ht
    · cases ht

def evAs (env : Env) : List Operand → Option (List AV)
  | [] => some []
  | x :: r => match evA env x, evAs env r with
    | some v, some l => some (v :: l)
    | _, _ => none
theorem evAs_rel {M : Mem} {a : Act} {env : Env} : ∀ {xs : List Operand} {l : List AV}, (∀ x ∈ xs, ∀ v, evA env x = some v → VRel M v (a.eval x)) → evAs env xs = some l → VRels M l (xs.map a.eval)
  | [], l, _, h => by simp only [evAs, Option.some.injEq] at h; subst h; simp [VRels]
  | x :: xs, l, hx, h => by
    simp only [evAs] at h
    split at h
    · rename_i v l' h1 h2
      cases h
      simp only [List.map_cons, VRels]
      exact ⟨_, _, rfl, hx x (by simp) v h1, evAs_rel (fun y hy => hx y (by simp [hy])) h2⟩
    · cases h

theorem g_makeFunc {f : Fn} {first cap : Array Operand} {l c : List AV} (h1 : evAs env first.toList = some l) (h2 : evAs env cap.toList = some c) : GOp P ro ⟨dst, .makeFunc f first cap, ty, pos, after, guard⟩ env σ (Is (.fn f l c) σ) :=
  gop_pure _ (by intro c h; cases h) fun X M a w hg ho => by
    have k1 := evAs_rel (a := a) (M := M) (fun x hx v hv => ho x (by simp only [Op.operands, Array.mem_append]; exact .inl (by simpa using hx)) v hv) h1
    have k2 := evAs_rel (a := a) (M := M) (fun x hx v hv => ho x (by simp only [Op.operands, Array.mem_append]; exact .inr (by simpa using hx)) v hv) h2
    refine ⟨.func f (first.map a.eval) (cap.map a.eval), ?_, by simp [execOp, Instr.makeFunc, Sem.run_bind]⟩
    simp only [VRel]
    exact ⟨_, _, rfl, by simpa using k1, by simpa using k2⟩

/-- A pointer that is none of nil. -/
def isPtr : AV → Bool
  | .ptr _ _ => true
  | .eptr _ _ => true
  | .rptr _ _ => true
  | _ => false
theorem g_nilCheck {x : Operand} {v : AV} (hx : evA env x = some v) (hp : isPtr v = true) : GOp P ro ⟨dst, .nilCheck x, ty, pos, after, guard⟩ env σ (Is v σ) :=
  gop_pure v (by intro c h; cases h) fun X M a w hg ho => by
    have h1 := ho x (by simp [Op.operands]) _ hx
    obtain ⟨ad, e⟩ : ∃ ad, a.eval x = .pointer (some ad) := by
      cases v <;> first | cases hp | skip
      · simp only [VRel] at h1; exact ⟨_, h1⟩
      · simp only [VRel] at h1; obtain ⟨b, base, e, _⟩ := h1; exact ⟨_, e⟩
      · simp only [VRel] at h1; obtain ⟨b, n, cap, _, e⟩ := h1; exact ⟨_, e⟩
    refine ⟨a.eval x, h1, ?_⟩
    simp [execOp, e]

/-- A row of zeros. -/
theorem flatten_replicate_get (z : List AV) : ∀ (n i : Nat), i < n * z.length → (List.replicate n z).flatten[i]? = z[i % z.length]?
  | 0, i, h => by simp at h
  | n + 1, i, h => by
    rw [List.replicate_succ, List.flatten_cons]
    by_cases hi : i < z.length
    · rw [List.getElem?_append_left hi, Nat.mod_eq_of_lt hi]
    · rw [List.getElem?_append_right (by omega), flatten_replicate_get z n _ (by rw [Nat.add_mul] at h; omega)]
      congr 1
      exact (Nat.mod_eq_sub_mod (by omega)).symm
theorem g_makeSlice {t e : TypeId} {sz bytes n : Nat} {x y : Operand} {kx ky : IntKind} {i j : Int} {z : List AV} (ht : appOf P t = some (e, sz, bytes)) (hz : zeroA P e = some z) (hx : evA env x = some (.int kx i)) (hy : evA env y = some (.int ky j)) (hi : i = (n : Int)) (hj : j = (n : Int)) (hb : n * bytes ≤ 140737488355328) :
    GOp P ro ⟨dst, .makeSlice t x y, ty, pos, after, guard⟩ env σ (Rowed e sz (List.replicate n z) σ) :=
  gop_run (by intro c h; cases h) fun X M a w hg ho => by
    have h1 := ho x (by simp [Op.operands]) _ hx
    have h2 := ho y (by simp [Op.operands]) _ hy
    simp only [VRel] at h1 h2
    obtain ⟨hue, inf, z', hinf, hz', hsz, hby, hzl, h0, hb0⟩ := appOf_spec ht
    obtain ⟨i', zv, hi', hzv, rfl⟩ := zeroA_spec hz
    rw [hinf] at hi'; cases hi'
    rw [hz'] at hzv; cases hzv
    subst hi hj
    have hn63 : n ≤ 140737488355328 := Nat.le_trans (Nat.le_mul_of_pos_right n hb0) hb
    have hbI : (inf.bytes : Int) * (n : Int) ≤ 281474976710656 := by
      rw [hby]
      have : ((bytes * n : Nat) : Int) ≤ 281474976710656 := by rw [Nat.mul_comm]; omega
      rwa [Int.natCast_mul] at this
    have hr := run_make (P := P) w t e inf z' hue hinf hz' kx ky n n (by omega) (by omega) hbI (by omega)
    simp only [Int.toNat_natCast] at hr
    have hzL : (z'.cells.toList.map cA).length = sz := by simp [hzl]
    have hgd := alloc_row hg (madeCells z'.cells (n * inf.size)) e sz (l := List.replicate n (z'.cells.toList.map cA)) (cap := n) (by simp) (by unfold maxLen; omega) (by rw [size_madeCells, hsz]) (fun x hx => by rw [(List.mem_replicate.1 hx).2, hzL]) (by
      rw [List.take_of_length_le (by simp [size_madeCells, hsz])]
      have h3 := zeros_rel M (z := z') (n := n * inf.size) (fun _ => by omega)
      have e1 : zerosA (z'.cells.toList.map cA) (n * inf.size) = (List.replicate n (z'.cells.toList.map cA)).flatten := by
        apply List.ext_getElem?
        intro k
        by_cases hk : k < n * sz
        · rw [flatten_replicate_get _ _ _ (by rw [hzL]; exact hk)]
          simp only [zerosA, hsz, List.getElem?_map, List.getElem?_range hk, Option.map_some, hzL]
          have hlt : k % sz < (z'.cells.toList.map cA).length := by rw [hzL]; exact Nat.mod_lt _ h0
          have e2 : ∃ q, (z'.cells.toList.map cA)[k % sz]? = some q := ⟨_, List.getElem?_eq_getElem hlt⟩
          rw [List.getElem?_map] at e2
          obtain ⟨q, e2⟩ := e2
          rw [e2]; rfl
        · rw [List.getElem?_eq_none (by simp [zerosA, hsz]; omega), List.getElem?_eq_none (by simp [hzl]; omega)]
      rw [← e1]; exact h3)
    simp only [List.length_replicate] at hgd
    refine ⟨M, .slice (some ⟨w.heap.size, 0, none⟩) n n, _, .slv _, _, Mem.le_refl M, hgd, by simp [VRel, Value.isSl], .mk _, .inl ?_⟩
    simp only [execOp, h1, h2, Sem.run_bind, hr, Result.andThen_ok]
    rfl
end

/-! ### Calls -/
/-- A function's contract: in whatever memory it is called. -/
structure SCall (P : Program) (f : FuncId) (args : List AV) (σ : List Ent) (Q : AV → List Ent → Prop) : Prop where
  run : ∀ X M w (vs : Array Value), Good X M σ w → VRels M args vs.toList → Calls P f vs w fun e w' => ∃ M' σ' r v, M.le M' ∧ Good X M' σ' w' ∧ VRel M' r v ∧ e = .returned v ∧ Q r σ'

theorem SCall.mono {P : Program} {f : FuncId} {args : List AV} {σ : List Ent} {Q Q' : AV → List Ent → Prop} (h : SCall P f args σ Q) (hq : ∀ r σ', Q r σ' → Q' r σ') : SCall P f args σ Q' :=
  ⟨fun X M w vs hg ha => (h.run X M w vs hg ha).mono fun _ _ ⟨M', σ', r, v, h1, h2, h3, h4, h5⟩ => ⟨M', σ', r, v, h1, h2, h3, h4, hq _ _ h5⟩⟩

/-- More is owned than the callee is told of. -/
def Ent.mem (w : World) (τ : List Ent) : Mem := fun b => if some b ∈ τ.map Ent.block then w.heap[b]? else none
theorem SCall.frame {P : Program} {f : FuncId} {args : List AV} {σ : List Ent} {Q : AV → List Ent → Prop} (τ : List Ent) (h : SCall P f args σ Q) : SCall P f args (σ ++ τ) fun r σ' => ∃ σ1, σ' = σ1 ++ τ ∧ Q r σ1 := by
  refine ⟨fun X M w vs hg ha => ?_⟩
  have hmem : ∀ e ∈ τ, ∀ b, e.block = some b → (Ent.mem w τ) b = w.heap[b]? := fun e he b hb => by
    unfold Ent.mem; rw [if_pos (List.mem_map.2 ⟨e, he, hb⟩)]
  obtain ⟨X', hX'⟩ : ∃ X' : Fx, X' = { w0 := X.w0, fr := fun b => (X.fr b).or (Ent.mem w τ b) } := ⟨_, rfl⟩
  have hnod := hg.nod
  rw [List.filterMap_append, List.nodup_append] at hnod
  have hmt : ∀ b o, Ent.mem w τ b = some o → ∃ e ∈ τ, e.block = some b := fun b o ho => by
    unfold Ent.mem at ho
    split at ho
    · rename_i hb
      obtain ⟨e, he, hb⟩ := List.mem_map.1 hb
      exact ⟨e, he, hb⟩
    · cases ho
  have hg' : Good X' M σ w := by
    refine ⟨by rw [hX']; exact hg.os, by rw [hX']; exact hg.tape, by rw [hX']; exact hg.output, hg.mem, ?_, ?_, fun e he => hg.ent e (List.mem_append.2 (.inl he)), ?_, hnod.1⟩
    · intro b o ho
      rw [hX'] at ho
      simp only at ho
      cases hf : X.fr b with
      | some o' => rw [hf] at ho; simp only [Option.some_or, Option.some.injEq] at ho; subst ho; exact hg.frm b _ hf
      | none =>
        rw [hf, Option.none_or] at ho
        unfold Ent.mem at ho
        split at ho
        · exact ho
        · cases ho
    · intro b o ho
      rw [hX']
      simp only [hg.dis b o ho, Option.none_or]
      cases hm : Ent.mem w τ b with
      | none => rfl
      | some o' =>
        obtain ⟨e', he', hb'⟩ := hmt b o' hm
        have := (hg.own e' (List.mem_append.2 (.inr he')) b hb').1
        rw [ho] at this; cases this
    · intro e he b hb
      obtain ⟨k1, k2⟩ := hg.own e (List.mem_append.2 (.inl he)) b hb
      refine ⟨k1, ?_⟩
      rw [hX']
      simp only [k2, Option.none_or]
      cases hm : Ent.mem w τ b with
      | none => rfl
      | some o =>
        obtain ⟨e', he', hb'⟩ := hmt b o hm
        exact absurd rfl (hnod.2.2 b (List.mem_filterMap.2 ⟨e, he, hb⟩) b (List.mem_filterMap.2 ⟨e', he', hb'⟩))
  refine (h.run X' M w vs hg' ha).mono ?_
  rintro e w' ⟨M', σ1, r, v, hm, hg1, hv, he, hq⟩
  refine ⟨M', σ1 ++ τ, r, v, hm, ?_, hv, he, σ1, rfl, hq⟩
  have kept : ∀ e ∈ τ, ∀ b, e.block = some b → w'.heap[b]? = w.heap[b]? := fun e he b hb => by
    have hlt := Ent.block_lt (hg.ent e (List.mem_append.2 (.inr he))) hb
    have ho : w.heap[b]? = some w.heap[b] := Array.getElem?_eq_getElem hlt
    rw [ho]
    refine hg1.frm b _ ?_
    rw [hX']
    have := (hg.own e (List.mem_append.2 (.inr he)) b hb).2
    simp only [this, Option.none_or, hmem e he b hb, ho]
  refine ⟨by have := hg1.os; rw [hX'] at this; exact this, by have := hg1.tape; rw [hX'] at this; exact this, by have := hg1.output; rw [hX'] at this; exact this, hg1.mem, ?_, ?_, ?_, ?_, ?_⟩
  · intro b o ho
    refine hg1.frm b o ?_
    rw [hX']; simp [ho]
  · intro b o ho
    have := hg1.dis b o ho
    rw [hX'] at this
    simp only at this
    cases hf : X.fr b with
    | none => rfl
    | some o => rw [hf] at this; cases this
  · intro e he
    rcases List.mem_append.1 he with he | he
    · exact hg1.ent e he
    · exact ((hg.ent e (List.mem_append.2 (.inr he))).same (kept e he)).mono hm
  · intro e he b hb
    rcases List.mem_append.1 he with he | he
    · obtain ⟨k1, k2⟩ := hg1.own e he b hb
      refine ⟨k1, ?_⟩
      rw [hX'] at k2
      simp only at k2
      cases hf : X.fr b with
      | none => rfl
      | some o => rw [hf] at k2; cases k2
    · obtain ⟨k1, k2⟩ := hg.own e (List.mem_append.2 (.inr he)) b hb
      refine ⟨?_, k2⟩
      cases hM : M' b with
      | none => rfl
      | some o =>
        have hlt := Ent.block_lt (hg.ent e (List.mem_append.2 (.inr he))) hb
        have hd := hg1.dis b o hM
        rw [hX'] at hd
        simp only [k2, Option.none_or, hmem e he b hb, Array.getElem?_eq_getElem hlt] at hd
        cases hd
  · rw [List.filterMap_append, List.nodup_append]
    refine ⟨hg1.nod, hnod.2.1, fun b hb b' hb' heq => ?_⟩
    subst heq
    obtain ⟨e1, he1, hb1⟩ := List.mem_filterMap.1 hb
    obtain ⟨e2, he2, hb2⟩ := List.mem_filterMap.1 hb'
    have k2 := (hg1.own e1 he1 b hb1).2
    rw [hX'] at k2
    have := (hg.own e2 (List.mem_append.2 (.inr he2)) b hb2).2
    have hlt := Ent.block_lt (hg.ent e2 (List.mem_append.2 (.inr he2))) hb2
    simp only [this, Option.none_or, hmem e2 he2 b hb2, Array.getElem?_eq_getElem hlt] at k2
    cases k2
end Go.Proofs.Ytobcnochlkdpaaa
