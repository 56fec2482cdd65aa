/- More operations: structs compared, a slice held against nil, the lesser and the greater of two numbers. -/
import Derived.Test.YtobcnochlkdpaaaSk
import Derived.Laws.Small
namespace Go.Proofs.Ytobcnochlkdpaaa
set_option linter.unusedSimpArgs false
set_option linter.unusedVariables false
open Go

theorem app_ok {n b : Nat} (h : n ≤ 2147483648) (hb : Nat.ble b 65536 = true) : n * b ≤ 140737488355328 :=
  Nat.mul_le_mul h (Nat.le_of_ble_eq_true hb)
section
variable {P : Program} {ro : Option Nat} {env : Env} {σ : List Ent} {o : Oper} {dst : Option Tmp} {ty : TypeId} {pos : String} {after : Array Edge} {guard : Option (Nat × Bool)}

/-- Structs of integers and bools, field by field. -/
def eqFs (P : Program) : List Field → Nat → List AV → List AV → Option Bool
  | [], _, _, _ => some true
  | f :: fs, i, .int k a :: xs, .int k' b :: ys => match P.underlying f.type, P.info? f.type, decide (f.name ≠ "_"), f.offset == i, decide (k = k') with
    | some (.int _), some _, true, true, true => (eqFs P fs (i + 1) xs ys).map ((a == b) && ·)
    | _, _, _, _, _ => none
  | f :: fs, i, .bool a :: xs, .bool b :: ys => match P.underlying f.type, P.info? f.type, decide (f.name ≠ "_"), f.offset == i with
    | some .bool, some _, true, true => (eqFs P fs (i + 1) xs ys).map ((a == b) && ·)
    | _, _, _, _ => none
  | _, _, _, _ => none

theorem run_part1 {t : TypeId} {cs : Array Value} {off : Nat} {v : Value} {w : World} (ha : (isAgg t).run P w = .ok false w) (hv : cs[off]? = some v) : (part t cs off).run P w = .ok v w := by
  simp [part, Sem.run_bind, ha, hv]
theorem isAgg_int {t : TypeId} {k : IntKind} {i : TypeInfo} (h : P.underlying t = some (.int k)) (hi : P.info? t = some i) (w : World) : (isAgg t).run P w = .ok false w := (tyOf_spec (b := false) (sz := i.size) (by simp [tyOf, h, hi]) w).1
theorem isAgg_bool {t : TypeId} {i : TypeInfo} (h : P.underlying t = some .bool) (hi : P.info? t = some i) (w : World) : (isAgg t).run P w = .ok false w := (tyOf_spec (b := false) (sz := i.size) (by simp [tyOf, h, hi]) w).1

theorem run_eqFs {M : Mem} {d : Nat} {w : World} {vs us : Array Value} : ∀ {fs : List Field} {i : Nat} {xs ys : List AV} {r : Bool}, eqFs P fs i xs ys = some r → (∀ (j : Nat) x, xs[j]? = some x → ∃ v, vs[i + j]? = some v ∧ VRel M x v) → (∀ (j : Nat) x, ys[j]? = some x → ∃ v, us[i + j]? = some v ∧ VRel M x v) →
    (Op.eqFields (d + 1) vs us fs).run P w = .ok r w
  | [], i, xs, ys, r, h, _, _ => by simp only [eqFs, Option.some.injEq] at h; subst h; simp [Op.eqFields]
  | f :: fs, i, xs, ys, r, h, h1, h2 => by
    unfold eqFs at h
    split at h
    · cases ‹_ :: _ = []›
    · rename_i i _ _ _ _ f' fs' k a xs k' b ys heq
      cases heq
      split at h
      · rename_i k0 i0 hu hi0 hname hoff hk
        simp only [Option.map_eq_some_iff] at h
        obtain ⟨r', h, rfl⟩ := h
        have hk : k = k' := by simpa using hk
        have hoff : f.offset = i := by simpa using hoff
        have hname : f.name ≠ "_" := by simpa using hname
        obtain ⟨v, hv, hrv⟩ := h1 0 _ rfl
        obtain ⟨u, hu', hru⟩ := h2 0 _ rfl
        simp only [VRel] at hrv hru
        subst hrv hru hk
        have ih := run_eqFs (d := d) (w := w) (i := i + 1) h (fun j x hx => by have := h1 (j + 1) x (by simpa using hx); rwa [show i + (j + 1) = i + 1 + j by omega] at this) (fun j x hx => by have := h2 (j + 1) x (by simpa using hx); rwa [show i + (j + 1) = i + 1 + j by omega] at this)
        have e1 := run_part1 (P := P) (isAgg_int hu hi0 w) (show vs[f.offset]? = some (.int k a) by rw [hoff]; simpa using hv)
        have e2 := run_part1 (P := P) (isAgg_int hu hi0 w) (show us[f.offset]? = some (.int k b) by rw [hoff]; simpa using hu')
        simp only [Op.eqFields, if_pos hname, Sem.run_bind, e1, e2, Result.andThen_ok, run_equalIn_int w d f.type k _ a b hu]
        cases hab : a == b
        · simp
        · simpa using ih
      · cases h
    · rename_i i _ _ _ _ f' fs' a xs b ys heq
      cases heq
      split at h
      · rename_i i0 hu hi0 hname hoff
        simp only [Option.map_eq_some_iff] at h
        obtain ⟨r', h, rfl⟩ := h
        have hoff : f.offset = i := by simpa using hoff
        have hname : f.name ≠ "_" := by simpa using hname
        obtain ⟨v, hv, hrv⟩ := h1 0 _ rfl
        obtain ⟨u, hu', hru⟩ := h2 0 _ rfl
        simp only [VRel] at hrv hru
        subst hrv hru
        have ih := run_eqFs (d := d) (w := w) (i := i + 1) h (fun j x hx => by have := h1 (j + 1) x (by simpa using hx); rwa [show i + (j + 1) = i + 1 + j by omega] at this) (fun j x hx => by have := h2 (j + 1) x (by simpa using hx); rwa [show i + (j + 1) = i + 1 + j by omega] at this)
        have e1 := run_part1 (P := P) (isAgg_bool hu hi0 w) (show vs[f.offset]? = some (.bool a) by rw [hoff]; simpa using hv)
        have e2 := run_part1 (P := P) (isAgg_bool hu hi0 w) (show us[f.offset]? = some (.bool b) by rw [hoff]; simpa using hu')
        simp only [Op.eqFields, if_pos hname, Sem.run_bind, e1, e2, Result.andThen_ok, run_equalIn_bool' w d f.type a b hu]
        cases hab : a == b
        · simp
        · simpa using ih
      · cases h
    · cases h

/-- Is it a struct that can be compared so? -/
def eqTyB (P : Program) (t : TypeId) : Bool := !P.eqGuardType P.depth t && !P.stoodInHeld t
theorem eqTy_spec {t : TypeId} {fs : Array Field} (h : P.underlying t = some (.struct fs)) (hb : eqTyB P t = true) : P.underlying t = some (.struct (P.fieldsOf t)) ∧ P.fieldsOf t = fs ∧ P.eqGuardType P.depth t = false ∧ P.stoodInHeld t = false := by
  have e : P.fieldsOf t = fs := by unfold Program.fieldsOf; rw [h]
  simp only [eqTyB, Bool.and_eq_true, Bool.not_eq_true'] at hb
  exact ⟨by rw [e]; exact h, e, hb.1, hb.2⟩
theorem g_eqlAgg {x y : Operand} {t yt : TypeId} {fs : Array Field} {l m : List AV} {b : Bool} (ht : P.underlying t = some (.struct fs)) (hq : eqTyB P t = true) (hx : evA env x = some (.agg l)) (hy : evA env y = some (.agg m)) (hb : eqFs P fs.toList 0 l m = some b) :
    GOp P ro ⟨dst, .binOp .eql t x y yt, ty, pos, after, guard⟩ env σ (Is (.bool b) σ) :=
  gop_pure _ (by intro c h; cases h) fun X M e w hg ho => by
    have h1 := ho x (by simp [Op.operands]) _ hx
    have h2 := ho y (by simp [Op.operands]) _ hy
    simp only [VRel] at h1 h2
    obtain ⟨vs, e1, k1⟩ := h1
    obtain ⟨us, e2, k2⟩ := h2
    obtain ⟨c1, c2, c3, c4⟩ := eqTy_spec ht hq
    refine ⟨.bool b, by simp [VRel], ?_⟩
    have hr := run_eqFs (P := P) (d := 9998) (w := w) hb (vs := vs) (us := us) (M := M) (fun j x hx => by obtain ⟨v, a, b⟩ := k1.get hx; exact ⟨v, by simpa using a, b⟩) (fun j x hx => by obtain ⟨v, a, b⟩ := k2.get hx; exact ⟨v, by simpa using a, b⟩)
    simp only [execOp, e1, e2, Sem.run_bind, run_eqGuard_agg w .eql t x y vs us c3, Result.andThen_ok, run_eql_struct, run_equalIn_agg w 9999 t vs us c1 c4, c2, hr]
    rfl
theorem g_neqAgg {x y : Operand} {t yt : TypeId} {fs : Array Field} {l m : List AV} {b : Bool} (ht : P.underlying t = some (.struct fs)) (hq : eqTyB P t = true) (hx : evA env x = some (.agg l)) (hy : evA env y = some (.agg m)) (hb : eqFs P fs.toList 0 l m = some b) :
    GOp P ro ⟨dst, .binOp .neq t x y yt, ty, pos, after, guard⟩ env σ (Is (.bool (!b)) σ) :=
  gop_pure _ (by intro c h; cases h) fun X M e w hg ho => by
    have h1 := ho x (by simp [Op.operands]) _ hx
    have h2 := ho y (by simp [Op.operands]) _ hy
    simp only [VRel] at h1 h2
    obtain ⟨vs, e1, k1⟩ := h1
    obtain ⟨us, e2, k2⟩ := h2
    obtain ⟨c1, c2, c3, c4⟩ := eqTy_spec ht hq
    refine ⟨.bool (!b), by simp [VRel], ?_⟩
    have hr := run_eqFs (P := P) (d := 9998) (w := w) hb (vs := vs) (us := us) (M := M) (fun j x hx => by obtain ⟨v, a, b⟩ := k1.get hx; exact ⟨v, by simpa using a, b⟩) (fun j x hx => by obtain ⟨v, a, b⟩ := k2.get hx; exact ⟨v, by simpa using a, b⟩)
    simp only [execOp, e1, e2, Sem.run_bind, run_eqGuard_agg w .neq t x y vs us c3, Result.andThen_ok, run_neq_struct, run_equalIn_agg w 9999 t vs us c1 c4, c2, hr]
    rfl

theorem run_equalIn_nil {t e : TypeId} (ht : P.underlying t = some (.slice e)) (d : Nat) (a : Addr) (n c : Nat) (w : World) : (Op.equalIn (d + 1) t (.slice (some a) n c) (.slice none 0 0)).run P w = .ok false w := by
  simp only [Op.equalIn, Sem.run_bind, run_underlying ht, Result.andThen_ok, Sem.run_pure]
theorem run_eql_nil {t e : TypeId} (ht : P.underlying t = some (.slice e)) (a : Addr) (n c : Nat) (w : World) : (binOp .eql t (.slice (some a) n c) (.slice none 0 0)).run P w = .ok (.bool false) w := by
  have h := run_equalIn_nil (P := P) ht 9999 a n c w
  simp only [binOp]
  simp only [Op.equal, Op.maxDepth, Sem.run_bind, Sem.run_map, h]
  rfl
/-- A slice that has elements is not nil. -/
theorem g_eqlNil {x : Operand} {t e yt : TypeId} {sz : Nat} {L : List (List AV)} (ht : P.underlying t = some (.slice e)) (hx : evA env x = some (.dl sz L)) (hL : 0 < L.length) :
    GOp P ro ⟨dst, .binOp .eql t x (.const nilS) yt, ty, pos, after, guard⟩ env σ (Is (.bool false) σ) :=
  gop_pure _ (by intro c h; cases h) fun X M en w hg ho => by
    have h1 := ho x (by simp [Op.operands]) _ hx
    simp only [VRel] at h1
    obtain ⟨a, cap, hv, _, _, _, h2⟩ := h1
    rcases h2 with rfl | ⟨b, off, rfl, _⟩
    · simp at hL
    refine ⟨.bool false, by simp [VRel], ?_⟩
    have e : en.eval (.const nilS) = nilS := rfl
    simp only [execOp, e, hv, Sem.run_bind, run_eql_nil ht]
    rfl

/-- The greater, the lesser. -/
theorem g_max {x y : Operand} {ats : Array TypeId} {k k' : IntKind} {a b : Int} (hx : evA env x = some (.int k a)) (hy : evA env y = some (.int k' b)) :
    GOp P ro ⟨dst, .call { callee := .builtin .max, args := #[x, y], argTypes := ats }, ty, pos, after, guard⟩ env σ (Is (.int k (max a b)) σ) :=
  gop_pure _ (by intro c h; cases h) fun X M e w hg ho => by
    have h1 := ho x (by simp [Op.operands, Call.operands]) _ hx
    have h2 := ho y (by simp [Op.operands, Call.operands]) _ hy
    simp only [VRel] at h1 h2
    refine ⟨.int k (max a b), by simp [VRel], ?_⟩
    have e : (if b > a then b else a) = max a b := by split <;> omega
    simp [execOp, resolve, invoke, builtin, h1, h2, Sem.run_bind, run_max_int2, e]
theorem g_min {x y : Operand} {ats : Array TypeId} {k k' : IntKind} {a b : Int} (hx : evA env x = some (.int k a)) (hy : evA env y = some (.int k' b)) :
    GOp P ro ⟨dst, .call { callee := .builtin .min, args := #[x, y], argTypes := ats }, ty, pos, after, guard⟩ env σ (Is (.int k (min a b)) σ) :=
  gop_pure _ (by intro c h; cases h) fun X M e w hg ho => by
    have h1 := ho x (by simp [Op.operands, Call.operands]) _ hx
    have h2 := ho y (by simp [Op.operands, Call.operands]) _ hy
    simp only [VRel] at h1 h2
    refine ⟨.int k (min a b), by simp [VRel], ?_⟩
    have e : (if b < a then b else a) = min a b := by split <;> omega
    simp [execOp, resolve, invoke, builtin, h1, h2, Sem.run_bind, run_min_int2, e]

theorem flatten_set {sz : Nat} : ∀ {l : List (List AV)} {k : Nat} {y : List AV}, (∀ x ∈ l, x.length = sz) → y.length = sz → k < l.length → (l.set k y).flatten = l.flatten.take (k * sz) ++ y ++ l.flatten.drop (k * sz + y.length)
  | [], k, y, _, _, h => by simp at h
  | x :: l, 0, y, hs, hy, _ => by
    have hx := hs x (by simp)
    simp [hy, ← hx]
  | x :: l, k + 1, y, hs, hy, hk => by
    have hx := hs x (by simp)
    have ih := flatten_set (l := l) (k := k) (fun z hz => hs z (by simp [hz])) hy (by simpa using hk)
    have e1 : (k + 1) * sz = x.length + k * sz := by rw [Nat.add_mul, hx]; omega
    have e2 : (k + 1) * sz + y.length = x.length + (k * sz + y.length) := by omega
    simp only [List.set_cons_succ, List.flatten_cons, ih]
    rw [e2, e1, List.take_length_add_append, List.drop_length_add_append]
    simp
theorem flatten_size {sz : Nat} : ∀ {l : List (List AV)}, (∀ x ∈ l, x.length = sz) → l.flatten.length = l.length * sz
  | [], _ => by simp
  | x :: l, h => by
    have h1 := h x (by simp)
    have ih := flatten_size (l := l) (fun z hz => h z (by simp [hz]))
    simp only [List.flatten_cons, List.length_append, ih, h1, List.length_cons, Nat.add_mul]; omega
/-- A whole element of an owned row is turned. -/
theorem g_setElem {t e : TypeId} {x y : Operand} {k sz : Nat} {g : Bool} {v : AV} {u : Value} {l : List (List AV)} {σ' : List Ent} (ht : tyOf P t = some (g, sz)) (hx : evA env x = some (.rptr u (k * sz))) (hy : evA env y = some v) (h1 : isOne v = true) (ha : v.cells.all AV.one = true) (hsz : v.cells.length = sz)
    (hk : k < l.length) (hu : Upd σ (.row u e sz l) (.row u e sz (l.set k v.cells)) σ') : GOp P ro ⟨dst, .store t x y, ty, pos, after, guard⟩ env σ (Is (.raw undef) σ') := by
  refine ⟨fun X M a w hg => ?_⟩
  obtain ⟨xs, _, _, hs⟩ := hg.ent _ hu.mem
  have hfl := flatten_size hs
  have hle : (k + 1) * sz ≤ l.length * sz := Nat.mul_le_mul_right _ hk
  rw [Nat.add_mul] at hle
  have hb : k * sz + v.cells.length ≤ l.flatten.length := by omega
  exact (g_storeRow (l := l) (l' := l.set k v.cells) ht hx hy h1 ha hsz (by omega) (by rw [setL_eq _ _ _ hb]; exact flatten_set hs hsz hk) (by simp) (fun z hz => by rcases List.mem_or_eq_of_mem_set hz with h | rfl; exact hs z h; exact hsz) hu).run X M a w hg

theorem get_set {α : Type} {l : List α} {k : Nat} {x y : α} (h : l[k]? = some x) : (l.set k y)[k]? = some y := by
  have := (List.getElem?_eq_some_iff.1 h).1
  simp [this]
/-- A part of an element of an owned row is turned. -/
theorem g_setPart {t e : TypeId} {x y : Operand} {k sz o n : Nat} {g : Bool} {v : AV} {u : Value} {l : List (List AV)} {σ' : List Ent} {A B : List AV} (ht : tyOf P t = some (g, n)) (hx : evA env x = some (.rptr u (k * sz + o))) (hy : evA env y = some v) (h1 : isOne v = true) (ha : v.cells.all AV.one = true) (hsz : v.cells.length = n)
    (hu : Upd σ (.row u e sz l) (.row u e sz (l.set k B)) σ') (hA : l[k]? = some A) (hf : o + n ≤ A.length) (hB : setL A o v.cells = B) : GOp P ro ⟨dst, .store t x y, ty, pos, after, guard⟩ env σ (Is (.raw undef) σ') := by
  refine ⟨fun X M a w hg => ?_⟩
  obtain ⟨xs, _, _, hs⟩ := hg.ent _ hu.mem
  have hk : k < l.length := (List.getElem?_eq_some_iff.1 hA).1
  have hAl := hs A (List.mem_of_getElem? hA)
  have hself : l.set k A = l := by
    apply List.ext_getElem?
    intro j
    rw [List.getElem?_set]
    by_cases e : k = j
    · subst e; simp only [hk, if_true]; exact hA.symm
    · rw [if_neg e]
  have hfl := flatten_set hs hAl hk
  rw [hself] at hfl
  have hsize := flatten_size hs
  have hBl : B.length = sz := by rw [← hB, setL_eq _ _ _ (by omega)]; simp only [List.length_append, List.length_take, List.length_drop]; omega
  have hfB := flatten_set hs hBl hk
  have hle : (k + 1) * sz ≤ l.length * sz := Nat.mul_le_mul_right _ hk
  rw [Nat.add_mul] at hle
  have htl : (l.flatten.take (k * sz)).length = k * sz := by rw [List.length_take]; omega
  generalize hP : l.flatten.take (k * sz) = Pp at hfl hfB htl
  rw [hAl] at hfl
  rw [hBl] at hfB
  generalize hQ : l.flatten.drop (k * sz + sz) = Qq at hfl hfB
  refine (g_storeRow (l := l) (l' := l.set k B) ht hx hy h1 ha hsz (by omega) ?_ (by simp) (fun z hz => by rcases List.mem_or_eq_of_mem_set hz with h | rfl; exact hs z h; exact hBl) hu).run X M a w hg
  rw [hfB, hfl, setL_eq _ _ _ (by simp only [List.length_append]; omega), ← hB, setL_eq _ _ _ (by omega)]
  rw [← htl, List.append_assoc Pp A Qq, List.take_length_add_append, show Pp.length + o + v.cells.length = Pp.length + (o + v.cells.length) by omega, List.drop_length_add_append]
  rw [List.take_append_of_le_length (by omega), List.drop_append_of_le_length (by omega)]
  simp
/-- A part of an immutable slice. -/
theorem g_sliceMap {α : Type} {f : α → List AV} {t e : TypeId} {sz : Nat} {x : Operand} {lo hi : Option Operand} {L : List α} {l h : Nat} {li hj : Int} (ht : elemOf P t = some (e, sz)) (hx : evA env x = some (.dl sz (L.map f))) (hlo : boundA env 0 lo = some li) (hhi : boundA env (L.map f).length hi = some hj)
    (hl : li = (l : Int)) (hh : hj = (h : Int)) (hlh : li ≤ hj ∧ hj ≤ (L.length : Int)) : GOp P ro ⟨dst, .slice t x lo hi none, ty, pos, after, guard⟩ env σ (Is (.dl sz (((L.take h).drop l).map f)) σ) :=
  g_sliceDl ht hx hlo hhi hl hh (by omega) (by rw [List.length_map]; omega) (by rw [List.map_drop, List.map_take])

theorem g_sliceLo {α : Type} {f : α → List AV} {t e : TypeId} {sz : Nat} {x lo : Operand} {L : List α} {l : Nat} {li : Int} (ht : elemOf P t = some (e, sz)) (hx : evA env x = some (.dl sz (L.map f))) (hlo : boundA env 0 (some lo) = some li)
    (hl : li = (l : Int)) (hlh : li ≤ (L.length : Int)) : GOp P ro ⟨dst, .slice t x (some lo) none none, ty, pos, after, guard⟩ env σ (Is (.dl sz ((L.drop l).map f)) σ) :=
  g_sliceDl ht hx hlo rfl hl rfl (by rw [List.length_map]; omega) (Nat.le_refl _) (by rw [List.take_length, List.map_drop])
theorem g_sliceHi {α : Type} {f : α → List AV} {t e : TypeId} {sz : Nat} {x hi : Operand} {L : List α} {h : Nat} {hj : Int} (ht : elemOf P t = some (e, sz)) (hx : evA env x = some (.dl sz (L.map f))) (hhi : boundA env (L.map f).length (some hi) = some hj)
    (hh : hj = (h : Int)) (hlh : hj ≤ (L.length : Int)) : GOp P ro ⟨dst, .slice t x none (some hi) none, ty, pos, after, guard⟩ env σ (Is (.dl sz ((L.take h).map f)) σ) :=
  g_sliceDl ht hx rfl hhi rfl hh (Nat.zero_le _) (by rw [List.length_map]; omega) (by rw [List.drop_zero, List.map_take])

/-- A row that is written no more, from the start. -/
theorem gop_sealed {e : TypeId} {sz : Nat} {l : List (List AV)} (h : GOp P ro o env σ (Rowed e sz l σ)) : GOp P ro o env σ (Is (.dl sz l) σ) := by
  refine ⟨fun X M a w hg ho K Qx hK => h.run X M a w hg ho K Qx ?_⟩
  rintro M' u w' v σ' hm hgd hv ⟨v⟩
  obtain ⟨M1, h1, h2, h3⟩ := hgd.shut .here
  simp only [VRel] at hv
  obtain ⟨rfl, _⟩ := hv
  exact hK M1 _ w' _ _ (Mem.le_trans hm h1) h2 h3 .mk
theorem nil_rel (M : Mem) (sz : Nat) : VRel M (.dl sz []) nilS := by simp only [VRel]; exact ⟨none, 0, rfl, by simp, by omega, by simp, by simp⟩
/-- nil among the arguments is an empty slice. -/
theorem scall_nil (sz : Nat) {P : Program} {f : FuncId} {args args' : List AV} {σ : List Ent} {Q : AV → List Ent → Prop} (hc : Cv nilS (.dl sz []) args args') (h : SCall P f args' σ Q) : SCall P f args σ Q :=
  ⟨fun X M w vs hg ha => h.run X M w vs hg (hc.rel (nil_rel M sz) ha)⟩
theorem Cv.refl {v : Value} {x : AV} : ∀ l : List AV, Cv v x l l
  | [] => .nil
  | _ :: l => .same (Cv.refl l)

/-- An owned row is written no more. -/
inductive SealEnv (env : Env) (v : Value) (x : AV) : Env → Prop
  | nil : SealEnv env v x []
  | same {t : Nat} {y : AV} {r : Env} (h : lk env t = some y) (k : SealEnv env v x r) : SealEnv env v x ((t, y) :: r)
  | here {t : Nat} {r : Env} (h : lk env t = some (.slv v)) (k : SealEnv env v x r) : SealEnv env v x ((t, x) :: r)
theorem SealEnv.rel {v : Value} {x : AV} {env' : Env} {M M' : Mem} {tmps : Array Value} (hm : M.le M') (hx : VRel M' x v) (he : EnvRel M env tmps) (h : SealEnv env v x env') : EnvRel M' env' tmps := by
  induction h with
  | nil => intro t y hy; simp [lk] at hy
  | @same t y r h k ih =>
    intro u z hz
    by_cases e : t = u
    · subst e; rw [lk_cons_same] at hz; cases hz
      exact he.mono hm t y h
    · rw [lk_cons_ne e] at hz; exact ih u z hz
  | @here t r h k ih =>
    intro u z hz
    by_cases e : t = u
    · subst e; rw [lk_cons_same] at hz; cases hz
      obtain ⟨a, h1, h2⟩ := he t _ h
      simp only [VRel] at h2
      obtain ⟨rfl, _⟩ := h2
      exact ⟨_, h1, hx⟩
    · rw [lk_cons_ne e] at hz; exact ih u z hz
theorem ex_seal {c : Code} {Q : Exit → St → Prop} {mk : List Nat} {n : Nat} {v : Value} {e : TypeId} {sz : Nat} {l : List (List AV)} {env' : Env} {σ' : List Ent} (hr : Rem σ (.row v e sz l) σ') (he : SealEnv env v (.dl sz l) env') (h : EX P ro c Q ⟨env', σ', mk, n⟩) : EX P ro c Q ⟨env, σ, mk, n⟩ :=
  ⟨fun X M a w hs => by
    obtain ⟨M1, h1, h2, h3⟩ := hs.good.shut hr
    refine Go.wpIn_mono (h.run X M1 a w ⟨h2, hs.size, hs.defs, he.rel h1 h3 hs.env⟩) ?_
    rintro e a' w' ⟨M', s', hm, hs', hq⟩
    exact ⟨M', s', Mem.le_trans h1 hm, hs', hq⟩⟩

/-- nil is an owned row without elements. -/
theorem ex_nilRow {c : Code} {Q : Exit → St → Prop} {mk : List Nat} {n : Nat} (e : TypeId) (sz : Nat) (h : EX P ro c Q ⟨env, .row nilS e sz [] :: σ, mk, n⟩) : EX P ro c Q ⟨env, σ, mk, n⟩ :=
  ⟨fun X M a w hs => by
    have hg := hs.good
    have hn : Good X M (.row nilS e sz [] :: σ) w := ⟨hg.os, hg.tape, hg.output, hg.mem, hg.frm, hg.dis, fun e' he => by
        rcases List.mem_cons.1 he with rfl | he
        · exact ⟨[], World.ownsRow_nil w 0 e sz, by simp [VRels], by simp⟩
        · exact hg.ent e' he,
      fun e' he b hb => by
        rcases List.mem_cons.1 he with rfl | he
        · cases hb
        · exact hg.own e' he b hb, hg.nod⟩
    exact h.run X M a w ⟨hn, hs.size, hs.defs, hs.env⟩⟩
end
end Go.Proofs.Ytobcnochlkdpaaa
