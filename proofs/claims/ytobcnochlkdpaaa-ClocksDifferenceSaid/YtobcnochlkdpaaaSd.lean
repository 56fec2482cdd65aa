/- A logic of abstract values, fourth part: operations that make or turn memory. -/
import Derived.Test.YtobcnochlkdpaaaSc
import Derived.Laws.OwnMore
import Derived.Laws.AppendOwnNone
import Derived.Laws.MakeOwn
namespace Go.Proofs.Ytobcnochlkdpaaa
set_option linter.unusedSimpArgs false
set_option linter.unusedVariables false

section
variable {P : Program} {ro : Option Nat} {env : Env} {σ σ' : List Ent} {o : Oper} {dst : Option Tmp} {ty : TypeId} {pos : String} {after : Array Edge} {guard : Option (Nat × Bool)}

/-- The cells of a value. -/
def AV.cells : AV → List AV
  | .agg l => l
  | v => [v]
theorem VRel.cells {M : Mem} {x : AV} {v : Value} (h : VRel M x v) (hx : (∃ l, x = .agg l) ∨ x.one = true) : VRels M x.cells v.cells.toList := by
  rcases hx with ⟨l, rfl⟩ | hx
  · simp only [VRel] at h; obtain ⟨vs, rfl, h⟩ := h; exact h
  · have h1 := h.one hx
    have e : v.cells = #[v] := by cases v <;> first | rfl | cases h1
    have e' : x.cells = [x] := by cases x <;> first | rfl | cases hx
    rw [e, e']
    exact ⟨v, [], rfl, h, rfl⟩

theorem alloc_cells {X : Fx} {M : Mem} {w : World} (hg : Good X M σ w) (c : Array Value) (t : TypeId) {l : List AV} (h : VRels M l c.toList) :
    Good X M (.cells w.heap.size l t :: σ) { w with heap := w.heap.push (.cells c t) } :=
  hg.alloc (.cells c t) _ rfl ⟨c, by have := World.alloc_heap_new w (.cells c t); exact this, h⟩

def isOne (x : AV) : Bool := match x with | .agg _ => true | x => x.one
theorem isOne_spec {x : AV} (h : isOne x = true) : (∃ l, x = .agg l) ∨ x.one = true := by
  cases x <;> first | exact .inl ⟨_, rfl⟩ | exact .inr h

/-- A new box with a value. -/
inductive Boxed (l : List AV) (t : TypeId) (σ : List Ent) : AV → List Ent → Prop
  | mk (b : Nat) : Boxed l t σ (.ptr b 0) (.cells b l t :: σ)
theorem g_box {t : TypeId} {x : Operand} {v : AV} (hx : evA env x = some v) (h1 : isOne v = true) : GOp P ro ⟨dst, .box t x, ty, pos, after, guard⟩ env σ (Boxed v.cells t σ) :=
  gop_run (by intro c h; cases h) fun X M a w hg ho => by
    have hv := ho x (by simp [Op.operands]) _ hx
    refine ⟨M, .pointer (some ⟨w.heap.size, 0, none⟩), _, .ptr w.heap.size 0, _, Mem.le_refl M, alloc_cells hg (a.eval x).cells t (hv.cells (isOne_spec h1)), by simp [VRel], .mk _, .inl ?_⟩
    simp [execOp, Instr.box, newVar, newRow, newObj, Sem.run_bind, Sem.run]

def zeroA (P : Program) (t : TypeId) : Option (List AV) := match (P.info? t).bind (·.zero) with
  | some z => some (z.cells.toList.map cA)
  | none => none
theorem zeroA_spec {t : TypeId} {l : List AV} (h : zeroA P t = some l) : ∃ i z, P.info? t = some i ∧ i.zero = some z ∧ l = z.cells.toList.map cA := by
  unfold zeroA at h
  cases hi : P.info? t with
  | none => rw [hi] at h; cases h
  | some i =>
    rw [hi] at h
    simp only [Option.bind_some] at h
    cases hz : i.zero with
    | none => rw [hz] at h; cases h
    | some z => rw [hz] at h; cases h; exact ⟨i, z, rfl, hz, rfl⟩
theorem cAs_rel (M : Mem) : ∀ l : List Value, VRels M (l.map cA) l
  | [] => by simp [VRels]
  | v :: l => by simp only [List.map_cons, VRels]; exact ⟨v, l, rfl, cA_rel M v, cAs_rel M l⟩
theorem g_alloc {t : TypeId} {l : List AV} (hz : zeroA P t = some l) : GOp P ro ⟨dst, .alloc t, ty, pos, after, guard⟩ env σ (Boxed l t σ) :=
  gop_run (by intro c h; cases h) fun X M a w hg ho => by
    obtain ⟨i, z, hi, hz', rfl⟩ := zeroA_spec hz
    refine ⟨M, .pointer (some ⟨w.heap.size, 0, none⟩), _, .ptr w.heap.size 0, _, Mem.le_refl M, alloc_cells hg z.cells t (cAs_rel M _), by simp [VRel], .mk _, .inl ?_⟩
    simp [execOp, Instr.alloc, newVar, newRow, newObj, Sem.run_bind, Sem.run, zeroValue, typeInfo, hi, hz']

/-! ### Stores -/
def setL : List AV → Nat → List AV → List AV
  | l, _, [] => l
  | l, i, x :: r => setL (l.set i x) (i + 1) r
theorem setL_eq : ∀ (r l : List AV) (i : Nat), i + r.length ≤ l.length → setL l i r = l.take i ++ r ++ l.drop (i + r.length)
  | [], l, i, _ => by simp [setL]
  | x :: r, l, i, h => by
    simp only [List.length_cons] at h
    rw [setL, setL_eq r (l.set i x) (i + 1) (by simp; omega)]
    have hi : i < l.length := by omega
    rw [show i + (x :: r).length = i + 1 + r.length by simp; omega]
    rw [List.take_add_one, List.take_set_of_le (by omega), List.drop_set_of_lt (by omega)]
    simp [List.getElem?_set, hi]
theorem setL_rel {M : Mem} : ∀ {r : List AV} {vs : List Value} {l : List AV} {c : List Value} {i : Nat}, VRels M l c → VRels M r vs → i + r.length ≤ l.length → VRels M (setL l i r) (c.take i ++ vs ++ c.drop (i + vs.length)) := by
  intro r vs l c i h1 h2 h3
  rw [setL_eq r l i h3]
  have e := h2.length
  rw [e]
  exact ((h1.take i).append h2).append (h1.drop _)

theorem one_of_rels {M : Mem} : ∀ {l : List AV} {vs : List Value}, VRels M l vs → (l.all AV.one) = true → ∀ v ∈ vs, v.oneCell' = true
  | [], vs, h, _ => by simp only [VRels] at h; simp [h]
  | x :: l, vs, h, ho => by
    simp only [VRels] at h
    obtain ⟨v, r, rfl, k1, k2⟩ := h
    simp only [List.all_cons, Bool.and_eq_true] at ho
    intro u hu
    rcases List.mem_cons.1 hu with rfl | hu
    · exact k1.one ho.1
    · exact one_of_rels k2 ho.2 u hu

theorem g_store {t tb : TypeId} {x y : Operand} {b i sz : Nat} {g : Bool} {v : AV} {l l' : List AV} (ht : tyOf P t = some (g, sz)) (hx : evA env x = some (.ptr b i)) (hy : evA env y = some v) (h1 : isOne v = true) (ha : v.cells.all AV.one = true) (hsz : v.cells.length = sz)
    (hl : i + sz ≤ l.length) (hl' : setL l i v.cells = l') (hu : Upd σ (.cells b l tb) (.cells b l' tb) σ') : GOp P ro ⟨dst, .store t x y, ty, pos, after, guard⟩ env σ (Is (.raw undef) σ') :=
  gop_run (by intro c h; cases h) fun X M a w hg ho => by
    have hp := ho x (by simp [Op.operands]) _ hx
    have hv := (ho y (by simp [Op.operands]) _ hy).cells (isOne_spec h1)
    simp only [VRel] at hp
    obtain ⟨c, hc, hr⟩ := hg.ent _ hu.mem
    obtain ⟨k1, k2⟩ := tyOf_spec ht w
    have e1 := hv.length
    have e2 := hr.length
    simp only [Array.length_toList] at e1 e2
    have hst := run_storeCells_at P b i tb (a.eval y).cells.toList 0 c w hc (by simp only [Array.length_toList]; omega) (one_of_rels hv ha)
    simp only [Nat.add_zero] at hst
    refine ⟨M, undef, (w.setRow b (c.toList.take i ++ (a.eval y).cells.toList ++ c.toList.drop (i + (a.eval y).cells.toList.length)).toArray), .raw undef, σ', Mem.le_refl M, ?_, by simp [VRel], .mk, .inr ⟨?_, rfl⟩⟩
    rotate_left
    · simp only [execOp, hp, Instr.storeAt, Instr.sureAddr, storeVar, Sem.run_bind, Sem.run_pure, Result.andThen_ok, k2, e1, hsz, ne_eq, not_true_eq_false, if_false, hst]
    · refine hg.upd hu rfl rfl rfl (fun k hk hne => setRow_other w b k _ (fun e => hne (by simp [Ent.block, e]))) ⟨_, setRow_heap w b c _ tb (0, 0) hc, ?_⟩ (.inl rfl)
      rw [← hl']
      simpa using setL_rel (i := i) hr hv (by omega)

theorem g_store' {t tb : TypeId} {x y : Operand} {b i sz : Nat} {g : Bool} {v : AV} {l l' : List AV} (hx : evA env x = some (.ptr b i)) (ht : tyOf P t = some (g, sz)) (hy : evA env y = some v) (hu : Upd σ (.cells b l tb) (.cells b l' tb) σ') (hl' : setL l i v.cells = l') (h1 : isOne v = true) (ha : v.cells.all AV.one = true) (hsz : v.cells.length = sz)
    (hl : i + sz ≤ l.length) : GOp P ro ⟨dst, .store t x y, ty, pos, after, guard⟩ env σ (Is (.raw undef) σ') := g_store ht hx hy h1 ha hsz hl hl' hu

/-- Rows that are owned: the elements turned where they lie. -/
theorem g_storeRow {t e : TypeId} {x y : Operand} {i sz n : Nat} {g : Bool} {v : AV} {u : Value} {l l' : List (List AV)} (ht : tyOf P t = some (g, n)) (hx : evA env x = some (.rptr u i)) (hy : evA env y = some v) (h1 : isOne v = true) (ha : v.cells.all AV.one = true) (hsz : v.cells.length = n)
    (hl : i + n ≤ l.flatten.length) (hl' : l'.flatten = setL l.flatten i v.cells) (hlen : l'.length = l.length) (hs : ∀ x ∈ l', x.length = sz) (hu : Upd σ (.row u e sz l) (.row u e sz l') σ') : GOp P ro ⟨dst, .store t x y, ty, pos, after, guard⟩ env σ (Is (.raw undef) σ') :=
  gop_run (by intro c h; cases h) fun X M a w hg ho => by
    have hp := ho x (by simp [Op.operands]) _ hx
    have hv := (ho y (by simp [Op.operands]) _ hy).cells (isOne_spec h1)
    simp only [VRel] at hp
    obtain ⟨b, m, cap, rfl, hp⟩ := hp
    obtain ⟨xs, hown, hr, _⟩ := hg.ent _ hu.mem
    obtain ⟨k1, k2⟩ := tyOf_spec ht w
    have e1 := hv.length
    have e2 := hr.length
    simp only [Array.length_toList] at e1
    obtain ⟨ho1, ho2⟩ := hown
    rcases ho2 with ⟨h0, _⟩ | ⟨g', cap', cur, hve, hb, hgg, hnc, hcm, hcs, htk⟩
    · cases h0
    cases hve
    have hfit : i + n ≤ cur.size := by
      have := congrArg List.length htk
      simp only [List.length_take, Array.length_toList] at this
      omega
    have hst := run_storeCells_at P b i e (a.eval y).cells.toList 0 cur w hgg (by simp only [Array.length_toList]; omega) (one_of_rels hv ha)
    simp only [Nat.add_zero] at hst
    refine ⟨M, undef, (w.setRow b (cur.toList.take i ++ (a.eval y).cells.toList ++ cur.toList.drop (i + (a.eval y).cells.toList.length)).toArray), .raw undef, σ', Mem.le_refl M, ?_, by simp [VRel], .mk, .inr ⟨?_, rfl⟩⟩
    rotate_left
    · simp only [execOp, hp, Instr.storeAt, Instr.sureAddr, storeVar, Sem.run_bind, Sem.run_pure, Result.andThen_ok, k2, e1, hsz, ne_eq, not_true_eq_false, if_false, hst]
    · refine hg.upd hu rfl rfl rfl (fun k hk hne => setRow_other w b k _ (fun e => hne (by simp [Ent.block, Value.ownBlock, e]))) ?_ (.inl rfl)
      have hxl : xs.length = l.length * sz := ho1
      have htk' : List.take (l.length * sz) (cur.toList.take i ++ (a.eval y).cells.toList ++ cur.toList.drop (i + (a.eval y).cells.toList.length)) = xs.take i ++ (a.eval y).cells.toList ++ xs.drop (i + (a.eval y).cells.toList.length) := by
        have hle : i + (a.eval y).cells.toList.length ≤ xs.length := by simp only [Array.length_toList]; omega
        rw [← htk]
        rw [← hxl] at *
        simp only [Array.length_toList] at hle ⊢
        apply List.ext_getElem?
        intro j
        simp only [List.getElem?_take, List.getElem?_append, List.length_append, List.length_take, Array.length_toList, List.getElem?_drop]
        by_cases hj : j < xs.length
        · rw [if_pos hj]
          by_cases hj1 : j < i
          · simp only [show j < min i cur.size + (a.eval y).cells.size by omega, show j < min i cur.size by omega, show j < min i (min xs.length cur.size) + (a.eval y).cells.size by omega, show j < min i (min xs.length cur.size) by omega, if_true, hj1, hj]
          · by_cases hj2 : j < i + (a.eval y).cells.size
            · simp only [show j < min i cur.size + (a.eval y).cells.size by omega, show ¬ j < min i cur.size by omega, show j < min i (min xs.length cur.size) + (a.eval y).cells.size by omega, show ¬ j < min i (min xs.length cur.size) by omega, if_true, if_false]
              congr 1; omega
            · simp only [show ¬ j < min i cur.size + (a.eval y).cells.size by omega, show ¬ j < min i (min xs.length cur.size) + (a.eval y).cells.size by omega, if_false]
              rw [if_pos (by omega)]
              congr 1; omega
        · rw [if_neg hj]
          simp only [show ¬ j < min i (min xs.length cur.size) + (a.eval y).cells.size by omega, if_false]
          rw [if_neg (by omega)]
      refine ⟨xs.take i ++ (a.eval y).cells.toList ++ xs.drop (i + (a.eval y).cells.toList.length), ⟨?_, .inr ⟨b, cap, _, by rw [hlen], hb, setRow_heap w b cur _ e (0, 0) hgg, by rw [hlen]; exact hnc, hcm, ?_, ?_⟩⟩, ?_, hs⟩
      · simp only [List.length_append, List.length_take, List.length_drop, Array.length_toList]; rw [hlen]; omega
      · simp only [List.size_toArray, List.length_append, List.length_take, List.length_drop, Array.length_toList]; omega
      · simp only []; rw [hlen]; exact htk'
      · rw [hl']; exact setL_rel (i := i) hr hv (by omega)

/-! ### Slices that are made -/
/-- A new owned row. -/
inductive Rowed (e : TypeId) (sz : Nat) (l : List (List AV)) (σ : List Ent) : AV → List Ent → Prop
  | mk (v : Value) : Rowed e sz l σ (.slv v) (.row v e sz l :: σ)

theorem alloc_row {X : Fx} {M : Mem} {w : World} (hg : Good X M σ w) (c : Array Value) (e : TypeId) (sz : Nat) {l : List (List AV)} {cap : Nat} (hcap : l.length ≤ cap) (hm : cap ≤ maxLen) (hc : c.size = cap * sz) (hs : ∀ x ∈ l, x.length = sz) (h : VRels M l.flatten (c.toList.take (l.length * sz))) :
    Good X M (.row (.slice (some ⟨w.heap.size, 0, none⟩) l.length cap) e sz l :: σ) { w with heap := w.heap.push (.cells c e) } := by
  refine hg.alloc (.cells c e) _ rfl ⟨_, ⟨?_, .inr ⟨w.heap.size, cap, c, rfl, Nat.zero_le _, World.alloc_heap_new w (.cells c e), hcap, hm, hc, rfl⟩⟩, h, hs⟩
  have e1 : c.toList.length = cap * sz := by simpa using hc
  rw [List.length_take, e1]
  exact Nat.min_eq_left (Nat.mul_le_mul_right _ hcap)

/-- A part of a literal: where it lies, how long it is. -/
def fillA (place : Nat → Option (Nat × Nat)) (l : List AV) : List (Nat × AV) → Option (List AV)
  | [] => some l
  | (i, v) :: r => match place i with
    | none => none
    | some (off, n) => if v.cells.length ≠ n ∨ l.length < off + v.cells.length ∨ isOne v = false then none else fillA place (setL l off v.cells) r

def setV : List Value → Nat → List Value → List Value
  | l, _, [] => l
  | l, i, x :: r => setV (l.set i x) (i + 1) r
theorem setV_rel {M : Mem} : ∀ {r : List AV} {vs : List Value} {l : List AV} {c : List Value} {i : Nat}, VRels M l c → VRels M r vs → VRels M (setL l i r) (setV c i vs)
  | [], vs, l, c, i, h, h2 => by simp only [VRels] at h2; subst h2; exact h
  | x :: r, vs, l, c, i, h, h2 => by
    simp only [VRels] at h2
    obtain ⟨v, vs', rfl, k1, k2⟩ := h2
    exact setV_rel (l := l.set i x) (c := c.set i v) (i := i + 1) (h.set i k1) k2
theorem foldl_set (off : Nat) : ∀ (vs : List Value) (k : Nat) (acc : Array Value), ((vs.zipIdx k).foldl (fun cs (p : Value × Nat) => cs.setIfInBounds (off + p.2) p.1) acc).toList = setV acc.toList (off + k) vs
  | [], k, acc => rfl
  | v :: vs, k, acc => by
    simp only [List.zipIdx_cons, List.foldl_cons]
    rw [foldl_set off vs (k + 1), Array.toList_setIfInBounds]
    rfl

theorem fill_rel {M : Mem} (place : Nat → Option (Nat × Nat)) : ∀ (parts : List (Nat × AV)) (ps : List (Nat × Value)) (l : List AV) (c : Array Value) (l' : List AV), VRels M l c.toList → (parts.map (·.1) = ps.map (·.1)) → VRels M (parts.map (·.2)) (ps.map (·.2)) → fillA place l parts = some l' →
    ∃ c', Instr.fill place c ps = some c' ∧ VRels M l' c'.toList
  | [], [], l, c, l', h, _, _, hf => by simp only [fillA, Option.some.injEq] at hf; subst hf; exact ⟨c, rfl, h⟩
  | [], p :: ps, _, _, _, _, he, _, _ => by simp at he
  | p :: parts, [], _, _, _, _, he, _, _ => by simp at he
  | (i, v) :: parts, (j, u) :: ps, l, c, l', h, he, hv, hf => by
    simp only [List.map_cons, List.cons.injEq] at he
    obtain ⟨rfl, he⟩ := he
    simp only [List.map_cons, VRels] at hv
    obtain ⟨u', r, e', k1, k2⟩ := hv
    cases e'
    simp only [fillA] at hf
    cases hp : place i with
    | none => rw [hp] at hf; cases hf
    | some q =>
      obtain ⟨off, n⟩ := q
      rw [hp] at hf
      simp only at hf
      split at hf
      · cases hf
      · rename_i hn
        have h1 : v.cells.length = n := Classical.byContradiction fun h => hn (.inl h)
        have h2 : off + v.cells.length ≤ l.length := Nat.le_of_not_lt fun h => hn (.inr (.inl h))
        have h3 : isOne v = true := by cases hv : isOne v with | true => rfl | false => exact absurd (.inr (.inr hv)) hn
        have hc := k1.cells (isOne_spec h3)
        have e1 := hc.length
        have e2 := h.length
        simp only [Array.length_toList] at e1 e2
        have hfold := foldl_set off u.cells.toList 0 c
        have hrel := setV_rel (i := off) h hc
        obtain ⟨c', hc', hr'⟩ := fill_rel place parts ps _ (setV c.toList off u.cells.toList).toArray l' (by simpa using hrel) he k2 hf
        refine ⟨c', ?_, hr'⟩
        simp only [Instr.fill, hp]
        rw [if_neg (by simp; omega), ← hc']
        congr 1
        apply Array.ext'
        simp only [Nat.add_zero] at hfold
        rw [← hfold, ← Array.foldl_toList, Array.toList_zipIdx]

def partsA (env : Env) : List (Nat × Operand) → Option (List (Nat × AV))
  | [] => some []
  | (i, x) :: r => match evA env x, partsA env r with
    | some v, some l => some ((i, v) :: l)
    | _, _ => none
theorem partsA_rel {M : Mem} {a : Act} {env : Env} : ∀ {ps : List (Nat × Operand)} {l : List (Nat × AV)}, (∀ x ∈ ps.map (·.2), ∀ v, evA env x = some v → VRel M v (a.eval x)) → partsA env ps = some l →
    l.map (·.1) = (ps.map fun p => (p.1, a.eval p.2)).map (·.1) ∧ VRels M (l.map (·.2)) ((ps.map fun p => (p.1, a.eval p.2)).map (·.2))
  | [], l, _, h => by simp only [partsA, Option.some.injEq] at h; subst h; exact ⟨rfl, rfl⟩
  | (i, x) :: ps, l, hx, h => by
    simp only [partsA] at h
    split at h
    · rename_i v l' h1 h2
      cases h
      obtain ⟨k1, k2⟩ := partsA_rel (fun y hy => hx y (by simp only [List.map_cons, List.mem_cons]; exact .inr hy)) h2
      refine ⟨by simp only [List.map_cons, k1], ?_⟩
      simp only [List.map_cons, VRels]
      exact ⟨_, _, rfl, hx x (by simp) v h1, k2⟩
    · cases h

/-- Where the fields of a struct lie. -/
def plL (P : Program) : List Field → Option (List (Nat × Nat))
  | [] => some []
  | f :: fs => match P.info? f.type, plL P fs with
    | some i, some l => some ((f.offset, i.size) :: l)
    | _, _ => none
def placesOf (P : Program) (t : TypeId) : Option (List (Nat × Nat)) := match P.underlying t with
  | some (.struct fs) => plL P fs.toList
  | _ => none
theorem plL_eq : ∀ {fs : List Field} {l : List (Nat × Nat)}, plL P fs = some l → fs.mapM (fun f => (P.info? f.type).map fun i => (f.offset, i.size)) = some l
  | [], l, h => by simp only [plL, Option.some.injEq] at h; subst h; rfl
  | f :: fs, l, h => by
    unfold plL at h
    split at h
    · rename_i i l' hi hl
      simp only [Option.some.injEq] at h
      subst h
      rw [List.mapM_cons, hi, plL_eq hl]; rfl
    · cases h
theorem mapM_places {fs : List Field} {l : List (Nat × Nat)} (w : World) (h : fs.mapM (fun f => (P.info? f.type).map fun i => (f.offset, i.size)) = some l) : (fs.mapM (m := Sem) fun f => do pure (f.offset, ← sizeOf f.type)).run P w = .ok l w := by
  induction fs generalizing l with
  | nil => simp at h; subst h; rfl
  | cons f fs ih =>
    rw [List.mapM_cons] at h ⊢
    cases hi : P.info? f.type with
    | none => rw [hi] at h; cases h
    | some i =>
      rw [hi] at h
      simp only [Option.map_some, Option.bind_eq_bind, Option.bind_some] at h
      cases hl : fs.mapM (fun f => (P.info? f.type).map fun i => (f.offset, i.size)) with
      | none => rw [hl] at h; cases h
      | some l' =>
        rw [hl] at h
        cases h
        have e : (sizeOf f.type).run P w = .ok i.size w := by simp [sizeOf, typeInfo, hi, Sem.run_bind]
        simp only [Sem.run_bind, e, Result.andThen_ok, Sem.run_pure, ih hl]
theorem g_build {t : TypeId} {parts : Array (Nat × Operand)} {pl : List (Nat × Nat)} {z L : List AV} {l : List (Nat × AV)} (hp : placesOf P t = some pl) (hz : zeroA P t = some z) (hl : partsA env parts.toList = some l) (hf : fillA (pl[·]?) z l = some L) :
    GOp P ro ⟨dst, .build t parts, ty, pos, after, guard⟩ env σ (Is (.agg L) σ) :=
  gop_pure _ (by intro c h; cases h) fun X M a w hg ho => by
    obtain ⟨i, zv, hi, hzv, rfl⟩ := zeroA_spec hz
    obtain ⟨k1, k2⟩ := partsA_rel (a := a) (M := M) (fun x hx v hv => ho x (by simpa [Op.operands] using hx) v hv) hl
    obtain ⟨c', h1, h2⟩ := fill_rel (pl[·]?) l (parts.toList.map fun p => (p.1, a.eval p.2)) _ zv.cells L (cAs_rel M _) k1 k2 hf
    refine ⟨.agg c', ⟨c', rfl, h2⟩, ?_⟩
    unfold placesOf at hp
    cases hu : P.underlying t with
    | none => rw [hu] at hp; cases hp
    | some d =>
      rw [hu] at hp
      cases d <;> first | cases hp | skip
      rename_i fs
      have hm := plL_eq hp
      have hrun := mapM_places (P := P) w hm
      simp only [execOp, Instr.build, Sem.run_bind, zeroValue, typeInfo, run_program, Result.andThen_ok, hi, Sem.run_pure, hzv, run_underlying hu]
      rw [Array.mapM_eq_mapM_toList]
      simp only [Sem.run_bind, Functor.map, Sem.run_map, hrun]
      rw [show ∀ (m : Sem (List (Nat × Nat))), m.bind (Sem.pure ∘ List.toArray) = m >>= fun l => pure l.toArray from fun _ => rfl]
      simp only [Sem.run_bind, hrun, Result.andThen_ok, Sem.run_pure]
      simp [h1]
end
end Go.Proofs.Ytobcnochlkdpaaa
