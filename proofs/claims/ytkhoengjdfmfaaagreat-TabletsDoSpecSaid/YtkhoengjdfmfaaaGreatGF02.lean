/- Parts of the proof that belong together: Sd Se Sf Sg. -/
import Derived.Test.YtkhoengjdfmfaaaGreatGF01
import Derived.Laws.OwnMore
import Derived.Laws.AppendOwnNone
import Derived.Laws.MakeOwn
import Derived.RangeFuncCalls
import Derived.Shelf.Abstract
set_option maxRecDepth 10000
set_option linter.unusedSimpArgs false
set_option linter.unusedVariables false
namespace Go.Proofs.YtkhoengjdfmfaaaGreat
section
variable {P : Program} {ro : Option Nat} {env : Env} {σ σ' : List Ent} {o : Oper} {dst : Option Tmp} {ty : TypeId} {pos : String} {after : Array Edge} {guard : Option (Nat × Bool)}
def AV.cells : AV → List AV
 | .agg l => l
 | v => [v]
theorem VRel.cells {M : Mem} {x : AV} {v : Value} (h : VRel M x v) (hx : (∃ l, x = .agg l) ∨ x.one = true) : VRels M x.cells v.cells.toList := by
 rcases hx with ⟨l, rfl⟩ | hx
 ·simp only [VRel] at h; obtain ⟨vs, rfl, h⟩ := h; exact h
 ·have h1 := h.one hx
  have e : v.cells = #[v] := by cases v <;> first | rfl | cases h1
  have e' : x.cells = [x] := by cases x <;> first | rfl | cases hx
  rw [e, e']
  exact ⟨v, [], rfl, h, rfl⟩
theorem alloc_cells {X : Fx} {M : Mem} {w : World} (hg : Good X M σ w) (c : Array Value) (t : TypeId) {l : List AV} (h : VRels M l c.toList) :
  Good X M (.cells w.heap.size l t :: σ) { w with heap := w.heap.push (.cells c t) } :=
 hg.alloc (.cells c t) _ rfl ⟨c, by have := World.alloc_heap_new w (.cells c t); exact this, h⟩
def isOne (x : AV) : Bool := match x with | .agg _ => true | x => x.one
theorem isOne_spec {x : AV} (h : isOne x = true) : (∃ l, x = .agg l) ∨ x.one = true := by
 cases x <;> first | exact .inl ⟨_, rfl⟩ | exact .inr h
inductive Boxed (l : List AV) (t : TypeId) (σ : List Ent) : AV → List Ent → Prop
 | mk (b : Nat) : Boxed l t σ (.ptr b 0) (.cells b l t :: σ)
theorem g_box {t : TypeId} {x : Operand} {v : AV} (hx : xP env x = some v) (h1 : isOne v = true) : GOp P ro ⟨dst, .box t x, ty, pos, after, guard⟩ env σ (Boxed v.cells t σ) :=
 tW (by intro c h; cases h) fun X M a w hg ho => by
  have hv := ho x (by simp [Op.operands]) _ hx
  refine ⟨M, .pointer (some ⟨w.heap.size, 0, none⟩), _, .ptr w.heap.size 0, _, Mem.le_refl M, alloc_cells hg (a.eval x).cells t (hv.cells (isOne_spec h1)), by simp [VRel], .mk _, .inl ?_⟩
  simp [execOp, Instr.box, newVar, newRow, newObj, Sem.run_bind, Sem.run]
def zeroA (P : Program) (t : TypeId) : Option (List AV) := match (P.info? t).bind (·.zero) with
 | some z => some (z.cells.toList.map cA)
 | none => none
theorem zeroA_spec {t : TypeId} {l : List AV} (h : zeroA P t = some l) : ∃ i z, P.info? t = some i ∧ i.zero = some z ∧ l = z.cells.toList.map cA := by
 unfold zeroA at h
 cases hi : P.info? t with
 | none => rw [hi] at h; cases h
 | some i =>
  rw [hi] at h
  simp only [Option.bind_some] at h
  cases hz : i.zero with
  | none => rw [hz] at h; cases h
  | some z => rw [hz] at h; cases h; exact ⟨i, z, rfl, hz, rfl⟩
theorem cAs_rel (M : Mem) : ∀ l : List Value, VRels M (l.map cA) l
 | [] => by simp [VRels]
 | v :: l => by simp only [List.map_cons, VRels]; exact ⟨v, l, rfl, cA_rel M v, cAs_rel M l⟩
theorem vK {t : TypeId} {l : List AV} (hz : zeroA P t = some l) : GOp P ro ⟨dst, .alloc t, ty, pos, after, guard⟩ env σ (Boxed l t σ) :=
 tW (by intro c h; cases h) fun X M a w hg ho => by
  obtain ⟨i, z, hi, hz', rfl⟩ := zeroA_spec hz
  refine ⟨M, .pointer (some ⟨w.heap.size, 0, none⟩), _, .ptr w.heap.size 0, _, Mem.le_refl M, alloc_cells hg z.cells t (cAs_rel M _), by simp [VRel], .mk _, .inl ?_⟩
  simp [execOp, Instr.alloc, newVar, newRow, newObj, Sem.run_bind, Sem.run, zeroValue, typeInfo, hi, hz']
def tS : List AV → Nat → List AV → List AV
 | l, _, [] => l
 | l, i, x :: r => tS (l.set i x) (i + 1) r
theorem setL_eq : ∀ (r l : List AV) (i : Nat), i + r.length ≤ l.length → tS l i r = l.take i ++ r ++ l.drop (i + r.length)
 | [], l, i, _ => by simp [tS]
 | x :: r, l, i, h => by
  simp only [List.length_cons] at h
  rw [tS, setL_eq r (l.set i x) (i + 1) (by simp; omega)]
  have hi : i < l.length := by omega
  rw [show i + (x :: r).length = i + 1 + r.length by simp; omega]
  rw [List.take_add_one, List.take_set_of_le (by omega), List.drop_set_of_lt (by omega)]
  simp [List.getElem?_set, hi]
theorem setL_rel {M : Mem} : ∀ {r : List AV} {vs : List Value} {l : List AV} {c : List Value} {i : Nat}, VRels M l c → VRels M r vs → i + r.length ≤ l.length → VRels M (tS l i r) (c.take i ++ vs ++ c.drop (i + vs.length)) := by
 intro r vs l c i h1 h2 h3
 rw [setL_eq r l i h3]
 have e := h2.length
 rw [e]
 exact ((h1.take i).append h2).append (h1.drop _)
theorem one_of_rels {M : Mem} : ∀ {l : List AV} {vs : List Value}, VRels M l vs → (l.all AV.one) = true → ∀ v ∈ vs, v.oneCell' = true
 | [], vs, h, _ => by simp only [VRels] at h; simp [h]
 | x :: l, vs, h, ho => by
  simp only [VRels] at h
  obtain ⟨v, r, rfl, k1, k2⟩ := h
  simp only [List.all_cons, Bool.and_eq_true] at ho
  intro u hu
  rcases List.mem_cons.1 hu with rfl | hu
  ·exact k1.one ho.1
  ·exact one_of_rels k2 ho.2 u hu
theorem g_store {t tb : TypeId} {x y : Operand} {b i sz : Nat} {g : Bool} {v : AV} {l l' : List AV} (ht : tyOf P t = some (g, sz)) (hx : xP env x = some (.ptr b i)) (hy : xP env y = some v) (h1 : isOne v = true) (ha : v.cells.all AV.one = true) (hsz : v.cells.length = sz)
  (hl : i + sz ≤ l.length) (hl' : tS l i v.cells = l') (hu : Upd σ (.cells b l tb) (.cells b l' tb) σ') : GOp P ro ⟨dst, .store t x y, ty, pos, after, guard⟩ env σ (Is (.raw undef) σ') :=
 tW (by intro c h; cases h) fun X M a w hg ho => by
  have hp := ho x (by simp [Op.operands]) _ hx
  have hv := (ho y (by simp [Op.operands]) _ hy).cells (isOne_spec h1)
  simp only [VRel] at hp
  obtain ⟨c, hc, hr⟩ := hg.ent _ hu.mem
  obtain ⟨k1, k2⟩ := tU ht w
  have e1 := hv.length
  have e2 := hr.length
  simp only [Array.length_toList] at e1 e2
  have hst := run_storeCells_at P b i tb (a.eval y).cells.toList 0 c w hc (by simp only [Array.length_toList]; omega) (one_of_rels hv ha)
  simp only [Nat.add_zero] at hst
  refine ⟨M, undef, (w.setRow b (c.toList.take i ++ (a.eval y).cells.toList ++ c.toList.drop (i + (a.eval y).cells.toList.length)).toArray), .raw undef, σ', Mem.le_refl M, ?_, by simp [VRel], .mk, .inr ⟨?_, rfl⟩⟩
  rotate_left
  ·simp only [execOp, hp, Instr.storeAt, Instr.sureAddr, storeVar, Sem.run_bind, Sem.run_pure, Result.andThen_ok, k2, e1, hsz, ne_eq, not_true_eq_false, if_false, hst]
  ·refine hg.upd hu rfl rfl rfl (fun k hk hne => setRow_other w b k _ (fun e => hne (by simp [Ent.block, e]))) ⟨_, setRow_heap w b c _ tb (0, 0) hc, ?_⟩ (.inl rfl)
   rw [← hl']
   simpa using setL_rel (i := i) hr hv (by omega)
theorem wV {t tb : TypeId} {x y : Operand} {b i sz : Nat} {g : Bool} {v : AV} {l l' : List AV} (hx : xP env x = some (.ptr b i)) (ht : tyOf P t = some (g, sz)) (hy : xP env y = some v) (hu : Upd σ (.cells b l tb) (.cells b l' tb) σ') (hl' : tS l i v.cells = l') (h1 : isOne v = true) (ha : v.cells.all AV.one = true) (hsz : v.cells.length = sz)
  (hl : i + sz ≤ l.length) : GOp P ro ⟨dst, .store t x y, ty, pos, after, guard⟩ env σ (Is (.raw undef) σ') := g_store ht hx hy h1 ha hsz hl hl' hu
theorem g_storeRow {t e : TypeId} {x y : Operand} {i sz n : Nat} {g : Bool} {v : AV} {u : Value} {l l' : List (List AV)} (ht : tyOf P t = some (g, n)) (hx : xP env x = some (.rptr u i)) (hy : xP env y = some v) (h1 : isOne v = true) (ha : v.cells.all AV.one = true) (hsz : v.cells.length = n)
  (hl : i + n ≤ l.flatten.length) (hl' : l'.flatten = tS l.flatten i v.cells) (hlen : l'.length = l.length) (hs : ∀ x ∈ l', x.length = sz) (hu : Upd σ (.row u e sz l) (.row u e sz l') σ') : GOp P ro ⟨dst, .store t x y, ty, pos, after, guard⟩ env σ (Is (.raw undef) σ') :=
 tW (by intro c h; cases h) fun X M a w hg ho => by
  have hp := ho x (by simp [Op.operands]) _ hx
  have hv := (ho y (by simp [Op.operands]) _ hy).cells (isOne_spec h1)
  simp only [VRel] at hp
  obtain ⟨b, m, cap, rfl, hp⟩ := hp
  obtain ⟨xs, hown, hr, _⟩ := hg.ent _ hu.mem
  obtain ⟨k1, k2⟩ := tU ht w
  have e1 := hv.length
  have e2 := hr.length
  simp only [Array.length_toList] at e1
  obtain ⟨ho1, ho2⟩ := hown
  rcases ho2 with ⟨h0, _⟩ | ⟨g', cap', cur, hve, hb, hgg, hnc, hcm, hcs, htk⟩
  ·cases h0
  cases hve
  have hfit : i + n ≤ cur.size := by
   have := congrArg List.length htk
   simp only [List.length_take, Array.length_toList] at this
   omega
  have hst := run_storeCells_at P b i e (a.eval y).cells.toList 0 cur w hgg (by simp only [Array.length_toList]; omega) (one_of_rels hv ha)
  simp only [Nat.add_zero] at hst
  refine ⟨M, undef, (w.setRow b (cur.toList.take i ++ (a.eval y).cells.toList ++ cur.toList.drop (i + (a.eval y).cells.toList.length)).toArray), .raw undef, σ', Mem.le_refl M, ?_, by simp [VRel], .mk, .inr ⟨?_, rfl⟩⟩
  rotate_left
  ·simp only [execOp, hp, Instr.storeAt, Instr.sureAddr, storeVar, Sem.run_bind, Sem.run_pure, Result.andThen_ok, k2, e1, hsz, ne_eq, not_true_eq_false, if_false, hst]
  ·refine hg.upd hu rfl rfl rfl (fun k hk hne => setRow_other w b k _ (fun e => hne (by simp [Ent.block, Value.ownBlock, e]))) ?_ (.inl rfl)
   have hxl : xs.length = l.length * sz := ho1
   have htk' : List.take (l.length * sz) (cur.toList.take i ++ (a.eval y).cells.toList ++ cur.toList.drop (i + (a.eval y).cells.toList.length)) = xs.take i ++ (a.eval y).cells.toList ++ xs.drop (i + (a.eval y).cells.toList.length) := by
    have hle : i + (a.eval y).cells.toList.length ≤ xs.length := by simp only [Array.length_toList]; omega
    rw [← htk]
    rw [← hxl] at *
    simp only [Array.length_toList] at hle ⊢
    apply List.ext_getElem?
    intro j
    simp only [List.getElem?_take, List.getElem?_append, List.length_append, List.length_take, Array.length_toList, List.getElem?_drop]
    by_cases hj : j < xs.length
    ·rw [if_pos hj]
     by_cases hj1 : j < i
     ·simp only [show j < min i cur.size + (a.eval y).cells.size by omega, show j < min i cur.size by omega, show j < min i (min xs.length cur.size) + (a.eval y).cells.size by omega, show j < min i (min xs.length cur.size) by omega, if_true, hj1, hj]
     ·by_cases hj2 : j < i + (a.eval y).cells.size
      ·simp only [show j < min i cur.size + (a.eval y).cells.size by omega, show ¬ j < min i cur.size by omega, show j < min i (min xs.length cur.size) + (a.eval y).cells.size by omega, show ¬ j < min i (min xs.length cur.size) by omega, if_true, if_false]
       congr 1; omega
      ·simp only [show ¬ j < min i cur.size + (a.eval y).cells.size by omega, show ¬ j < min i (min xs.length cur.size) + (a.eval y).cells.size by omega, if_false]
       rw [if_pos (by omega)]
       congr 1; omega
    ·rw [if_neg hj]
     simp only [show ¬ j < min i (min xs.length cur.size) + (a.eval y).cells.size by omega, if_false]
     rw [if_neg (by omega)]
   refine ⟨xs.take i ++ (a.eval y).cells.toList ++ xs.drop (i + (a.eval y).cells.toList.length), ⟨?_, .inr ⟨b, cap, _, by rw [hlen], hb, setRow_heap w b cur _ e (0, 0) hgg, by rw [hlen]; exact hnc, hcm, ?_, ?_⟩⟩, ?_, hs⟩
   ·simp only [List.length_append, List.length_take, List.length_drop, Array.length_toList]; rw [hlen]; omega
   ·simp only [List.size_toArray, List.length_append, List.length_take, List.length_drop, Array.length_toList]; omega
   ·simp only []; rw [hlen]; exact htk'
   ·rw [hl']; exact setL_rel (i := i) hr hv (by omega)
inductive Rowed (e : TypeId) (sz : Nat) (l : List (List AV)) (σ : List Ent) : AV → List Ent → Prop
 | mk (v : Value) : Rowed e sz l σ (.slv v) (.row v e sz l :: σ)
theorem alloc_row {X : Fx} {M : Mem} {w : World} (hg : Good X M σ w) (c : Array Value) (e : TypeId) (sz : Nat) {l : List (List AV)} {cap : Nat} (hcap : l.length ≤ cap) (hm : cap ≤ maxLen) (hc : c.size = cap * sz) (hs : ∀ x ∈ l, x.length = sz) (h : VRels M l.flatten (c.toList.take (l.length * sz))) :
  Good X M (.row (.slice (some ⟨w.heap.size, 0, none⟩) l.length cap) e sz l :: σ) { w with heap := w.heap.push (.cells c e) } := by
 refine hg.alloc (.cells c e) _ rfl ⟨_, ⟨?_, .inr ⟨w.heap.size, cap, c, rfl, Nat.zero_le _, World.alloc_heap_new w (.cells c e), hcap, hm, hc, rfl⟩⟩, h, hs⟩
 have e1 : c.toList.length = cap * sz := by simpa using hc
 rw [List.length_take, e1]
 exact Nat.min_eq_left (Nat.mul_le_mul_right _ hcap)
def fillA (place : Nat → Option (Nat × Nat)) (l : List AV) : List (Nat × AV) → Option (List AV)
 | [] => some l
 | (i, v) :: r => match place i with
  | none => none
  | some (off, n) => if v.cells.length ≠ n ∨ l.length < off + v.cells.length ∨ isOne v = false then none else fillA place (tS l off v.cells) r
def setV : List Value → Nat → List Value → List Value
 | l, _, [] => l
 | l, i, x :: r => setV (l.set i x) (i + 1) r
theorem setV_rel {M : Mem} : ∀ {r : List AV} {vs : List Value} {l : List AV} {c : List Value} {i : Nat}, VRels M l c → VRels M r vs → VRels M (tS l i r) (setV c i vs)
 | [], vs, l, c, i, h, h2 => by simp only [VRels] at h2; subst h2; exact h
 | x :: r, vs, l, c, i, h, h2 => by
  simp only [VRels] at h2
  obtain ⟨v, vs', rfl, k1, k2⟩ := h2
  exact setV_rel (l := l.set i x) (c := c.set i v) (i := i + 1) (h.set i k1) k2
theorem foldl_set (off : Nat) : ∀ (vs : List Value) (k : Nat) (acc : Array Value), ((vs.zipIdx k).foldl (fun cs (p : Value × Nat) => cs.setIfInBounds (off + p.2) p.1) acc).toList = setV acc.toList (off + k) vs
 | [], k, acc => rfl
 | v :: vs, k, acc => by
  simp only [List.zipIdx_cons, List.foldl_cons]
  rw [foldl_set off vs (k + 1), Array.toList_setIfInBounds]
  rfl
theorem fill_rel {M : Mem} (place : Nat → Option (Nat × Nat)) : ∀ (parts : List (Nat × AV)) (ps : List (Nat × Value)) (l : List AV) (c : Array Value) (l' : List AV), VRels M l c.toList → (parts.map (·.1) = ps.map (·.1)) → VRels M (parts.map (·.2)) (ps.map (·.2)) → fillA place l parts = some l' →
  ∃ c', Instr.fill place c ps = some c' ∧ VRels M l' c'.toList
 | [], [], l, c, l', h, _, _, hf => by simp only [fillA, Option.some.injEq] at hf; subst hf; exact ⟨c, rfl, h⟩
 | [], p :: ps, _, _, _, _, he, _, _ => by simp at he
 | p :: parts, [], _, _, _, _, he, _, _ => by simp at he
 | (i, v) :: parts, (j, u) :: ps, l, c, l', h, he, hv, hf => by
  simp only [List.map_cons, List.cons.injEq] at he
  obtain ⟨rfl, he⟩ := he
  simp only [List.map_cons, VRels] at hv
  obtain ⟨u', r, e', k1, k2⟩ := hv
  cases e'
  simp only [fillA] at hf
  cases hp : place i with
  | none => rw [hp] at hf; cases hf
  | some q =>
   obtain ⟨off, n⟩ := q
   rw [hp] at hf
   simp only at hf
   split at hf
   ·cases hf
   ·rename_i hn
    have h1 : v.cells.length = n := Classical.byContradiction fun h => hn (.inl h)
    have h2 : off + v.cells.length ≤ l.length := Nat.le_of_not_lt fun h => hn (.inr (.inl h))
    have h3 : isOne v = true := by cases hv : isOne v with | true => rfl | false => exact absurd (.inr (.inr hv)) hn
    have hc := k1.cells (isOne_spec h3)
    have e1 := hc.length
    have e2 := h.length
    simp only [Array.length_toList] at e1 e2
    have hfold := foldl_set off u.cells.toList 0 c
    have hrel := setV_rel (i := off) h hc
    obtain ⟨c', hc', hr'⟩ := fill_rel place parts ps _ (setV c.toList off u.cells.toList).toArray l' (by simpa using hrel) he k2 hf
    refine ⟨c', ?_, hr'⟩
    simp only [Instr.fill, hp]
    rw [if_neg (by simp; omega), ← hc']
    congr 1
    apply Array.ext'
    simp only [Nat.add_zero] at hfold
    rw [← hfold, ← Array.foldl_toList, Array.toList_zipIdx]
def partsA (env : Env) : List (Nat × Operand) → Option (List (Nat × AV))
 | [] => some []
 | (i, x) :: r => match xP env x, partsA env r with
  | some v, some l => some ((i, v) :: l)
  | _, _ => none
theorem partsA_rel {M : Mem} {a : Act} {env : Env} : ∀ {ps : List (Nat × Operand)} {l : List (Nat × AV)}, (∀ x ∈ ps.map (·.2), ∀ v, xP env x = some v → VRel M v (a.eval x)) → partsA env ps = some l →
  l.map (·.1) = (ps.map fun p => (p.1, a.eval p.2)).map (·.1) ∧ VRels M (l.map (·.2)) ((ps.map fun p => (p.1, a.eval p.2)).map (·.2))
 | [], l, _, h => by simp only [partsA, Option.some.injEq] at h; subst h; exact ⟨rfl, rfl⟩
 | (i, x) :: ps, l, hx, h => by
  simp only [partsA] at h
  split at h
  ·rename_i v l' h1 h2
   cases h
   obtain ⟨k1, k2⟩ := partsA_rel (fun y hy => hx y (by simp only [List.map_cons, List.mem_cons]; exact .inr hy)) h2
   refine ⟨by simp only [List.map_cons, k1], ?_⟩
   simp only [List.map_cons, VRels]
   exact ⟨_, _, rfl, hx x (by simp) v h1, k2⟩
  ·cases h
def plL (P : Program) : List Field → Option (List (Nat × Nat))
 | [] => some []
 | f :: fs => match P.info? f.type, plL P fs with
  | some i, some l => some ((f.offset, i.size) :: l)
  | _, _ => none
def placesOf (P : Program) (t : TypeId) : Option (List (Nat × Nat)) := match P.underlying t with
 | some (.struct fs) => plL P fs.toList
 | _ => none
theorem plL_eq : ∀ {fs : List Field} {l : List (Nat × Nat)}, plL P fs = some l → fs.mapM (fun f => (P.info? f.type).map fun i => (f.offset, i.size)) = some l
 | [], l, h => by simp only [plL, Option.some.injEq] at h; subst h; rfl
 | f :: fs, l, h => by
  unfold plL at h
  split at h
  ·rename_i i l' hi hl
   simp only [Option.some.injEq] at h
   subst h
   rw [List.mapM_cons, hi, plL_eq hl]; rfl
  ·cases h
theorem mapM_places {fs : List Field} {l : List (Nat × Nat)} (w : World) (h : fs.mapM (fun f => (P.info? f.type).map fun i => (f.offset, i.size)) = some l) : (fs.mapM (m := Sem) fun f => do pure (f.offset, ← sizeOf f.type)).run P w = .ok l w := by
 induction fs generalizing l with
 | nil => simp at h; subst h; rfl
 | cons f fs ih =>
  rw [List.mapM_cons] at h ⊢
  cases hi : P.info? f.type with
  | none => rw [hi] at h; cases h
  | some i =>
   rw [hi] at h
   simp only [Option.map_some, Option.bind_eq_bind, Option.bind_some] at h
   cases hl : fs.mapM (fun f => (P.info? f.type).map fun i => (f.offset, i.size)) with
   | none => rw [hl] at h; cases h
   | some l' =>
    rw [hl] at h
    cases h
    have e : (sizeOf f.type).run P w = .ok i.size w := by simp [sizeOf, typeInfo, hi, Sem.run_bind]
    simp only [Sem.run_bind, e, Result.andThen_ok, Sem.run_pure, ih hl]
theorem tK {t : TypeId} {parts : Array (Nat × Operand)} {pl : List (Nat × Nat)} {z L : List AV} {l : List (Nat × AV)} (hp : placesOf P t = some pl) (hz : zeroA P t = some z) (hl : partsA env parts.toList = some l) (hf : fillA (pl[·]?) z l = some L) :
  GOp P ro ⟨dst, .build t parts, ty, pos, after, guard⟩ env σ (Is (.agg L) σ) :=
 xZ _ (by intro c h; cases h) fun X M a w hg ho => by
  obtain ⟨i, zv, hi, hzv, rfl⟩ := zeroA_spec hz
  obtain ⟨k1, k2⟩ := partsA_rel (a := a) (M := M) (fun x hx v hv => ho x (by simpa [Op.operands] using hx) v hv) hl
  obtain ⟨c', h1, h2⟩ := fill_rel (pl[·]?) l (parts.toList.map fun p => (p.1, a.eval p.2)) _ zv.cells L (cAs_rel M _) k1 k2 hf
  refine ⟨.agg c', ⟨c', rfl, h2⟩, ?_⟩
  unfold placesOf at hp
  cases hu : P.underlying t with
  | none => rw [hu] at hp; cases hp
  | some d =>
   rw [hu] at hp
   cases d <;> first | cases hp | skip
   rename_i fs
   have hm := plL_eq hp
   have hrun := mapM_places (P := P) w hm
   simp only [execOp, Instr.build, Sem.run_bind, zeroValue, typeInfo, run_program, Result.andThen_ok, hi, Sem.run_pure, hzv, run_underlying hu]
   rw [Array.mapM_eq_mapM_toList]
   simp only [Sem.run_bind, Functor.map, Sem.run_map, hrun]
   rw [show ∀ (m : Sem (List (Nat × Nat))), m.bind (Sem.pure ∘ List.toArray) = m >>= fun l => pure l.toArray from fun _ => rfl]
   simp only [Sem.run_bind, hrun, Result.andThen_ok, Sem.run_pure]
   simp [h1]
end
section
variable {P : Program} {ro : Option Nat} {env : Env} {σ σ' : List Ent} {o : Oper} {dst : Option Tmp} {ty : TypeId} {pos : String} {after : Array Edge} {guard : Option (Nat × Bool)}
def appOf (P : Program) (t : TypeId) : Option (TypeId × Nat × Nat) := match P.underlying t with
 | some (.slice e) => match P.info? e with
  | some i => match i.zero with
   | some z => if z.cells.size = i.size ∧ 0 < i.size ∧ 0 < i.bytes then some (e, i.size, i.bytes) else none
   | none => none
  | none => none
 | _ => none
theorem appOf_spec {t e : TypeId} {sz bytes : Nat} (h : appOf P t = some (e, sz, bytes)) : P.underlying t = some (.slice e) ∧ ∃ i z, P.info? e = some i ∧ i.zero = some z ∧ i.size = sz ∧ i.bytes = bytes ∧ z.cells.size = sz ∧ 0 < sz ∧ 0 < bytes := by
 unfold appOf at h
 split at h
 ·rename_i e' he
  split at h
  ·rename_i i hi
   split at h
   ·rename_i z hz
    split at h
    ·rename_i hc
     cases h
     exact ⟨he, i, z, hi, hz, rfl, rfl, hc.1, hc.2⟩
    ·cases h
   ·cases h
  ·cases h
 ·cases h
def xC : Nat → Nat → List AV → List (List AV)
 | 0, _, _ => []
 | n + 1, sz, L => L.take sz :: xC n sz (L.drop sz)
theorem chunkN_spec : ∀ (n sz : Nat) (L : List AV), L.length = n * sz → (xC n sz L).flatten = L ∧ (xC n sz L).length = n ∧ ∀ x ∈ xC n sz L, x.length = sz
 | 0, sz, L, h => by simp at h; subst h; simp [xC]
 | n + 1, sz, L, h => by
  rw [Nat.add_mul, Nat.one_mul] at h
  obtain ⟨h1, h2, h3⟩ := chunkN_spec n sz (L.drop sz) (by simp [h])
  refine ⟨by simp [xC, h1], by simp [xC, h2], ?_⟩
  intro x hx
  rcases List.mem_cons.1 hx with rfl | hx
  ·simp [h]
  ·exact h3 x hx
theorem fillA_length (place : Nat → Option (Nat × Nat)) : ∀ (parts : List (Nat × AV)) (l L : List AV), fillA place l parts = some L → L.length = l.length
 | [], l, L, h => by simp only [fillA, Option.some.injEq] at h; rw [h]
 | (i, v) :: r, l, L, h => by
  simp only [fillA] at h
  split at h
  ·cases h
  ·split at h
   ·cases h
   ·rename_i off n _ hn
    have h2 : off + v.cells.length ≤ l.length := Nat.le_of_not_lt fun h => hn (.inr (.inl h))
    have := fillA_length place r _ _ h
    rw [this, setL_eq _ _ _ h2]
    simp; omega
def zerosA (z : List AV) (n : Nat) : List AV := (List.range n).map fun i => (z[i % z.length]?).getD default
theorem zeros_rel (M : Mem) {z : Value} {n : Nat} (hz : 0 < n → 0 < z.cells.size) : VRels M (zerosA (z.cells.toList.map cA) n) ((Array.range n).map (z.cells[· % z.cells.size]!)).toList := by
 refine VRels.of_get (by simp [zerosA]) (fun i x v h1 h2 => ?_)
 simp only [zerosA, List.length_map, Array.length_toList, List.getElem?_map, List.getElem?_range] at h1
 simp only [Array.toList_map, Array.toList_range, List.getElem?_map] at h2
 by_cases hi : i < n
 ·rw [List.getElem?_range hi] at h1 h2
  simp only [Option.map_some, Option.some.injEq] at h1 h2
  have hlt : i % z.cells.size < z.cells.size := Nat.mod_lt _ (hz (by omega))
  rw [← h1, ← h2]
  simp [hlt, cA_rel]
 ·rw [List.getElem?_eq_none (by simpa using hi)] at h1; cases h1
theorem yV {t e : TypeId} {sz len bytes : Nat} {parts : Array (Nat × Operand)} {z L : List AV} {l : List (Nat × AV)} {R : List (List AV)} (ht : appOf P t = some (e, sz, bytes)) (hz : zeroA P e = some z) (hlim : len * sz ≤ 16777216)
  (hl : partsA env parts.toList = some l) (hf : fillA (fun i => some (i * sz, sz)) (zerosA z (len * sz)) l = some L) (hR : xC len sz L = R) :
  GOp P ro ⟨dst, .buildSlice t len parts, ty, pos, after, guard⟩ env σ (Rowed e sz R σ) :=
 tW (by intro c h; cases h) fun X M a w hg ho => by
  subst hR
  obtain ⟨hue, inf, z', hinf, hz', hsz, _, hzl, h0, _⟩ := appOf_spec ht
  obtain ⟨i, zv, hi, hzv, rfl⟩ := zeroA_spec hz
  rw [hinf] at hi; cases hi
  rw [hz'] at hzv; cases hzv
  obtain ⟨k1, k2⟩ := partsA_rel (a := a) (M := M) (fun x hx v hv => ho x (by simpa [Op.operands] using hx) v hv) hl
  obtain ⟨c', h1, h2⟩ := fill_rel (fun i => some (i * sz, sz)) l (parts.toList.map fun p => (p.1, a.eval p.2)) _ ((Array.range (len * sz)).map (z'.cells[· % z'.cells.size]!)) L (zeros_rel M (fun _ => by omega)) k1 k2 hf
  have hLl := fillA_length _ _ _ _ hf
  simp only [zerosA, List.length_map, List.length_range] at hLl
  obtain ⟨c1, c2, c3⟩ := chunkN_spec len sz L hLl
  have hc' : c'.size = len * sz := by have := h2.length; simp only [Array.length_toList] at this; omega
  have hlm : len ≤ maxLen := by
   have := Nat.le_mul_of_pos_right len h0
   unfold maxLen; omega
  have hgd := alloc_row hg c' e sz (l := xC len sz L) (cap := len) (by omega) hlm hc' c3 (by rw [c1, c2, List.take_of_length_le (by simp [hc'])]; exact h2)
  rw [c2] at hgd
  refine ⟨M, .slice (some ⟨w.heap.size, 0, none⟩) len len, _, .slv _, _, Mem.le_refl M, hgd, by simp [VRel, Value.isSl], .mk _, .inl ?_⟩
  have hb : ¬ 16777216 < len * sz := by omega
  by_cases hn : len * sz = 0
  ·have e0 : Array.map (fun x => (#[] : Array Value)[x % (#[] : Array Value).size]!) (Array.range (len * sz)) = Array.map (fun x => z'.cells[x % z'.cells.size]!) (Array.range (len * sz)) := by
    have hr0 : Array.range (len * sz) = #[] := by rw [hn]; simp
    rw [hr0]; simp
   simp only [execOp, Instr.buildSlice, Sem.run_bind, run_underlying hue, Result.andThen_ok, sizeOf, typeInfo, run_program, hinf, Sem.run_pure, hsz]
   rw [if_neg hb]
   simp only [Sem.run_bind, Sem.run_pure, Result.andThen_ok, if_pos hn]
   rw [e0]
   have e1 : (parts.map fun x => (x.1, a.eval x.2)).toList = parts.toList.map fun p => (p.1, a.eval p.2) := by simp
   simp only [e1, h1]
   simp [Sem.run_bind, newRow, newObj, Sem.run]
  ·simp only [execOp, Instr.buildSlice, Sem.run_bind, run_underlying hue, Result.andThen_ok, sizeOf, typeInfo, run_program, hinf, Sem.run_pure, hsz]
   rw [if_neg hb]
   simp only [Sem.run_bind, Sem.run_pure, Result.andThen_ok, if_neg hn, zeroValue, typeInfo, run_program, hinf, hz']
   have e1 : (parts.map fun x => (x.1, a.eval x.2)).toList = parts.toList.map fun p => (p.1, a.eval p.2) := by simp
   simp only [e1, h1]
   simp [Sem.run_bind, newRow, newObj, Sem.run]
inductive Src (σ : List Ent) : AV → Nat → List (List AV) → Prop
 | d {sz : Nat} {m : List (List AV)} : Src σ (.dl sz m) sz m
 | r {v : Value} {e : TypeId} {sz : Nat} {m : List (List AV)} (h : Ent.row v e sz m ∈ σ) : Src σ (.slv v) sz m
 | n {sz : Nat} : Src σ (.slv nilS) sz []
theorem row_vals {M : Mem} {w : World} {b sz : Nat} : ∀ {m : List (List AV)} {off : Nat}, (∀ b' i v, M.cell b' i = some v → w.cell? ⟨b', i, none⟩ = some v) → (∀ x ∈ m, x.length = sz) → RRel M b off m → ∃ vs : List Value, VRels M m.flatten vs ∧ vs.length = m.length * sz ∧ ∀ (j : Nat) (v : Value), vs[j]? = some v → w.cell? ⟨b, off + j, none⟩ = some v
 | [], off, _, _, _ => ⟨[], by simp [VRels], by simp, by simp⟩
 | x :: m, off, hw, hs, h => by
  simp only [RRel] at h
  obtain ⟨vs, h1, h2, h3⟩ := row_vals (off := off + x.length) hw (fun y hy => hs y (by simp [hy])) h.2
  have cell : ∀ {x : List AV} {i : Nat}, CRel M b i x → ∃ us : List Value, VRels M x us ∧ us.length = x.length ∧ ∀ (j : Nat) (v : Value), us[j]? = some v → w.cell? ⟨b, i + j, none⟩ = some v := by
   intro x
   induction x with
   | nil => intro i _; exact ⟨[], by simp [VRels], rfl, by simp⟩
   | cons u x ih =>
    intro i hc
    simp only [CRel] at hc
    obtain ⟨⟨v, k1, k2⟩, k3⟩ := hc
    obtain ⟨us, e1, e2, e3⟩ := ih k3
    refine ⟨v :: us, by simp only [VRels]; exact ⟨v, us, rfl, k2, e1⟩, by simp [e2], fun j y hy => ?_⟩
    cases j with
    | zero => simp at hy; subst hy; exact hw b i v k1
    | succ j => simp at hy; have := e3 j y hy; rwa [show i + 1 + j = i + (j + 1) by omega] at this
  obtain ⟨us, e1, e2, e3⟩ := cell h.1
  have hx := hs x (by simp)
  refine ⟨us ++ vs, by rw [List.flatten_cons]; exact e1.append h1, by simp [e2, h2, hx, Nat.add_mul]; omega, fun j v hv => ?_⟩
  by_cases hj : j < us.length
  ·rw [List.getElem?_append_left hj] at hv; exact e3 j v hv
  ·rw [List.getElem?_append_right (by omega)] at hv
   have := h3 _ v hv
   rwa [← e2, show off + us.length + (j - us.length) = off + j by omega] at this
theorem src_vals {X : Fx} {M : Mem} {w : World} (hg : Good X M σ w) {x : AV} {sz : Nat} {m : List (List AV)} (h : Src σ x sz m) {u : Value} (hu : VRel M x u) :
  ∃ a cap, u = .slice a m.length cap ∧ ∃ vs : List Value, VRels M m.flatten vs ∧ vs.length = m.length * sz ∧ (∀ x ∈ m, x.length = sz) ∧ (a = none → m = []) ∧ ∀ ad, a = some ad → ∀ (j : Nat) (v : Value), vs[j]? = some v → w.cell? (ad.add j) = some v := by
 cases h with
 | d =>
  simp only [VRel] at hu
  obtain ⟨a, cap, rfl, h1, h2, h3, h4⟩ := hu
  rcases h4 with rfl | ⟨b, off, rfl, hr⟩
  ·exact ⟨a, cap, rfl, [], by simp [VRels], by simp, by simp, fun _ => rfl, by simp⟩
  ·obtain ⟨vs, e1, e2, e3⟩ := row_vals (w := w) (fun _ _ _ hc => cell_of_mem hg hc) h3 hr
   refine ⟨_, cap, rfl, vs, e1, e2, h3, by simp, ?_⟩
   rintro ad ⟨⟩ j v hv
   have : (⟨b, off, none⟩ : Addr).add j = ⟨b, off + j, none⟩ := by unfold Addr.add; split <;> simp_all
   rw [this]; exact e3 j v hv
 | r hm =>
  simp only [VRel] at hu
  obtain ⟨rfl, _⟩ := hu
  obtain ⟨xs, hown, hr, hs⟩ := hg.ent _ hm
  have hl := hown.1
  rcases hown.2 with ⟨rfl, h0⟩ | ⟨g, cap, cur, rfl, hb, hgg, hnc, hcm, _⟩
  ·have : m = [] := List.eq_nil_of_length_eq_zero h0
   subst this
   exact ⟨none, 0, rfl, xs, hr, hl, hs, fun _ => rfl, by simp⟩
  ·refine ⟨_, cap, rfl, xs, hr, hl, hs, by simp, ?_⟩
   rintro ad ⟨⟩ j v hv
   exact hown.cells (g := g) rfl j v hv
 | n =>
  simp only [VRel] at hu
  obtain ⟨rfl, _⟩ := hu
  exact ⟨none, 0, rfl, [], by simp [VRels], by simp, by simp, fun _ => rfl, by simp⟩
theorem run_append_none' {w : World} (t ty' e : TypeId) (i : TypeInfo) (size : Nat) (ht : P.underlying t = some (.slice e)) (hi : P.info? e = some i) {v : Value} {n cap : Nat} {xs : List Value} (hown : w.ownsRow 0 e size v n xs) :
  (Builtin.append_ #[t, t] ty' #[v, .slice none 0 cap]).run P w = .ok v w := by
 rcases hown.2 with ⟨rfl, rfl⟩ | ⟨g, cap, cur, rfl, _, _, hnc, _⟩
 ·simp [Builtin.append_, run_underlying ht, sizeOf, typeInfo, hi, Builtin.lenOf, Builtin.firstCells]
 ·simp [Builtin.append_, run_underlying ht, sizeOf, typeInfo, hi, Builtin.lenOf, Builtin.firstCells, hnc, storeCells]
theorem append_core {X : Fx} {M : Mem} {w : World} {t e : TypeId} {sz bytes : Nat} {v : Value} {l m : List (List AV)} {xs : List Value} (ht : appOf P t = some (e, sz, bytes)) (hg : Good X M σ w) (hown : w.ownsRow 0 e sz v l.length xs) (hr : VRels M l.flatten xs) (hs : ∀ x ∈ l, x.length = sz)
  {x : AV} {u : Value} (hsrc : Src σ x sz m) (hu : VRel M x u) (hone : ∀ y ∈ m, y.all AV.one = true) (hb : (l.length + m.length) * bytes ≤ 140737488355328) (ty' : TypeId) :
  ∃ v' w', (Builtin.append_ #[t, t] ty' #[v, u]).run P w = .ok v' w' ∧ (Ent.row v' e sz (l ++ m)).at M w' ∧ w.grownBy w' v.ownBlock ∧ (v'.ownBlock = v.ownBlock ∨ ∃ b, v'.ownBlock = some b ∧ w.heap.size ≤ b) := by
 obtain ⟨hue, i, z, hi, hz, hsz, hby, hzl, h0, hb0⟩ := appOf_spec ht
 obtain ⟨a, cap, rfl, vs, hv1, hv2, hv3, hv4, hv5⟩ := src_vals hg hsrc hu
 have hone' : m.flatten.all AV.one = true := by
  rw [List.all_eq_true]
  intro y hy
  obtain ⟨q, hq, hy⟩ := List.mem_flatten.1 hy
  exact List.all_eq_true.1 (hone q hq) y hy
 have h63 : l.length + m.length ≤ maxLen := by
  have := Nat.le_mul_of_pos_right (l.length + m.length) hb0
  unfold maxLen; omega
 have hsz' : ∀ x ∈ l ++ m, x.length = sz := fun x hx => by rcases List.mem_append.1 hx with hx | hx; exact hs x hx; exact hv3 x hx
 cases a with
 | none =>
  have hm := hv4 rfl
  subst hm
  refine ⟨v, w, run_append_none' t ty' e i sz hue hi hown, ⟨xs, by simpa using hown, by simpa using hr, by simpa using hs⟩, ⟨rfl, rfl, rfl, Nat.le_refl _, fun _ _ _ => rfl⟩, .inl rfl⟩
 | some ad =>
  obtain ⟨v', w', hrun, hown', hgr, _⟩ := run_append_own (P := P) w 0 t ty' e i z sz bytes hue hi hz hsz hby hzl h0 v l.length xs hown ad m.length cap vs (by rw [hv2]) (hv5 ad rfl) (one_of_rels hv1 hone') h63 hb (Nat.zero_le _)
  refine ⟨v', w', hrun, ⟨xs ++ vs, by simpa using hown', by rw [List.flatten_append]; exact hr.append hv1, hsz'⟩, hgr, ?_⟩
  clear hown' hgr
  have h1' := one_of_rels hv1 hone'
  rcases hown.2 with ⟨rfl, hn0⟩ | ⟨g2, cap2, cur2, rfl, hbg, hgg, hnc, hcm, hcs, htk⟩
  ·obtain ⟨v2, w2, hrun2, hown2, _, _⟩ := run_append_own (P := P) w w.heap.size t ty' e i z sz bytes hue hi hz hsz hby hzl h0 nilS 0 [] (World.ownsRow_nil w _ e sz) ad m.length cap vs (by rw [hv2]) (hv5 ad rfl) h1' (by omega) (by rw [Nat.zero_add]; exact Nat.le_trans (Nat.mul_le_mul_right bytes (Nat.le_add_left _ l.length)) hb) (Nat.le_refl _)
   rw [hrun2] at hrun
   cases hrun
   rcases hown2.2 with ⟨rfl, _⟩ | ⟨g, cap', cur, rfl, hge, _⟩
   ·exact .inl rfl
   ·exact .inr ⟨g, rfl, hge⟩
  ·by_cases hroom : l.length + m.length ≤ cap2
   ·have hfit : l.length * i.size + vs.length ≤ cur2.size := by rw [hv2, hcs, hsz, ← Nat.add_mul]; exact Nat.mul_le_mul_right _ hroom
    have hr2 := run_append_room (P := P) w t ty' e i hue hi g2 l.length cap2 cur2 hgg ad m.length cap vs (by rw [hv2, hsz]) (hv5 ad rfl) h1' hroom hfit
    rw [hr2] at hrun
    cases hrun
    exact .inl rfl
   ·have holds : ∀ (j : Nat) (u : Value), xs[j]? = some u → w.cell? ((⟨g2, 0, none⟩ : Addr).add j) = some u := hown.cells (g := g2) rfl
    have hsm : l.length + m.length ≤ 9223372036854775807 := by unfold maxLen at h63; omega
    have hr2 := run_append_grow (P := P) w t ty' e i z hue hi hz ⟨g2, 0, none⟩ l.length cap2 xs (by rw [hsz]; exact hown.1) holds ad m.length cap vs (by rw [hv2, hsz]) (hv5 ad rfl) (by omega) (by omega) (growslice_fits (by omega) (by rw [hby]; exact hb))
    rw [hr2] at hrun
    cases hrun
    exact .inr ⟨_, rfl, by simp⟩
theorem isSl_row {M : Mem} {w : World} {v : Value} {e : TypeId} {sz : Nat} {l : List (List AV)} (h : (Ent.row v e sz l).at M w) : v.isSl = true := by
 obtain ⟨xs, hown, _⟩ := h
 rcases hown.2 with ⟨rfl, _⟩ | ⟨g, cap, cur, rfl, _⟩ <;> rfl
inductive Grew (F : Value → List Ent) : AV → List Ent → Prop
 | mk (v : Value) : Grew F (.slv v) (F v)
theorem xG {t e : TypeId} {sz bytes : Nat} {s x : Operand} {v : Value} {xv : AV} {l m : List (List AV)} {F : Value → List Ent} (ht : appOf P t = some (e, sz, bytes)) (hs : xP env s = some (.slv v)) (hx : xP env x = some xv) (hu : ∀ v', Upd σ (.row v e sz l) (.row v' e sz (l ++ m)) (F v'))
  (hsrc : Src σ xv sz m) (hone : ∀ y ∈ m, y.all AV.one = true) (hb : (l.length + m.length) * bytes ≤ 140737488355328) :
  GOp P ro ⟨dst, .call { callee := .builtin .append, args := #[s, x], argTypes := #[t, t] }, ty, pos, after, guard⟩ env σ (Grew F) :=
 tW (by intro c h; cases h) fun X M a w hg ho => by
  have h1 := ho s (by simp [Op.operands, Call.operands]) _ hs
  have h2 := ho x (by simp [Op.operands, Call.operands]) _ hx
  simp only [VRel] at h1
  obtain ⟨h1, _⟩ := h1
  obtain ⟨xs, hown, hr, hsl⟩ := hg.ent _ (hu v).mem
  obtain ⟨v', w', hrun, hent, hgr, hblk⟩ := append_core (P := P) ht hg hown hr hsl hsrc h2 hone hb ty
  refine ⟨M, v', w', .slv v', F v', Mem.le_refl M, hg.upd (hu v') hgr.os hgr.tape hgr.output (fun k hk hne => hgr.block k hk (fun e => hne e.symm)) hent hblk, ⟨rfl, isSl_row hent⟩, .mk v', .inl ?_⟩
  simp [execOp, resolve, invoke, builtin, Sem.run_bind, h1, hrun]
theorem g_appendNil {t e : TypeId} {sz bytes : Nat} {s x : Operand} {xv : AV} {m : List (List AV)} (ht : appOf P t = some (e, sz, bytes)) (hs : xP env s = some (.slv nilS)) (hx : xP env x = some xv)
  (hsrc : Src σ xv sz m) (hone : ∀ y ∈ m, y.all AV.one = true) (hb : m.length * bytes ≤ 140737488355328) :
  GOp P ro ⟨dst, .call { callee := .builtin .append, args := #[s, x], argTypes := #[t, t] }, ty, pos, after, guard⟩ env σ (Rowed e sz m σ) :=
 tW (by intro c h; cases h) fun X M a w hg ho => by
  have h1 := ho s (by simp [Op.operands, Call.operands]) _ hs
  have h2 := ho x (by simp [Op.operands, Call.operands]) _ hx
  simp only [VRel] at h1
  obtain ⟨h1, _⟩ := h1
  have hown := World.ownsRow_nil w 0 e sz
  obtain ⟨v', w', hrun, hent, hgr, hblk⟩ := append_core (P := P) (l := []) ht hg hown (by simp [VRels]) (by simp) hsrc h2 hone (by simpa using hb) ty
  have hn : Good X M (.row nilS e sz [] :: σ) w := ⟨hg.os, hg.tape, hg.output, hg.mem, hg.frm, hg.dis, fun e' he => by
   rcases List.mem_cons.1 he with rfl | he
   ·exact ⟨[], hown, by simp [VRels], by simp⟩
   ·exact hg.ent e' he, fun e' he b hb => by
   rcases List.mem_cons.1 he with rfl | he
   ·cases hb
   ·exact hg.own e' he b hb, hg.nod⟩
  refine ⟨M, v', w', .slv v', _, Mem.le_refl M, hn.upd (σ' := .row v' e sz ([] ++ m) :: σ) .here hgr.os hgr.tape hgr.output (fun k hk hne => hgr.block k hk (fun e => hne e.symm)) hent hblk, ⟨rfl, isSl_row hent⟩, .mk v', .inl ?_⟩
  simp [execOp, resolve, invoke, builtin, Sem.run_bind, h1, hrun]
end
section
variable {P : Program} {ro : Option Nat} {env : Env} {σ σ' : List Ent} {o : Oper} {dst : Option Tmp} {ty : TypeId} {pos : String} {after : Array Edge} {guard : Option (Nat × Bool)}
def tA (env : Env) (d : Nat) : Option Operand → Option Int
 | none => some d
 | some x => match xP env x with
  | some (.int _ n) => some n
  | _ => none
theorem g_sliceDl {t e : TypeId} {sz : Nat} {x : Operand} {lo hi : Option Operand} {L R : List (List AV)} {l h : Nat} {li hj : Int} (ht : tB P t = some (e, sz)) (hx : xP env x = some (.dl sz L)) (hlo : tA env 0 lo = some li) (hhi : tA env L.length hi = some hj)
  (hl : li = (l : Int)) (hh : hj = (h : Int)) (hlh : l ≤ h) (hhL : h ≤ L.length) (hR : (L.take h).drop l = R) :
  GOp P ro ⟨dst, .slice t x lo hi none, ty, pos, after, guard⟩ env σ (Is (.dl sz R) σ) :=
 xZ _ (by intro c h; cases h) fun X M a w hg ho => by
  have h1 := ho x (by simp [Op.operands]) _ hx
  simp only [VRel] at h1
  obtain ⟨ad, cap, hv, h2, h3, h4, h5⟩ := h1
  obtain ⟨hue, inf, hinf, hsz⟩ := qC ht
  subst hR hl hh
  have hlen : ((L.take h).drop l).length = h - l := by simp; omega
  have elo : ∀ (y : Operand), lo = some y → ∃ k, a.eval y = .int k (l : Int) := fun y hy => by
   subst hy
   simp only [tA] at hlo
   split at hlo
   ·rename_i k n he
    cases hlo
    have := ho y (by simp [Op.operands]) _ he
    simp only [VRel] at this
    exact ⟨_, this⟩
   ·cases hlo
  have ehi : ∀ (y : Operand), hi = some y → ∃ k, a.eval y = .int k (h : Int) := fun y hy => by
   subst hy
   simp only [tA] at hhi
   split at hhi
   ·rename_i k n he
    cases hhi
    have := ho y (by simp [Op.operands]) _ he
    simp only [VRel] at this
    exact ⟨_, this⟩
   ·cases hhi
  have ehn : hi = none → h = L.length := fun e => by subst e; simp only [tA, Option.some.injEq] at hhi; omega
  have eln : lo = none → l = 0 := fun e => by subst e; simp only [tA, Option.some.injEq] at hlo; omega
  refine ⟨.slice (if cap = l then ad else ad.map (·.add (l * sz))) (h - l) (cap - l), ?_, ?_⟩
  ·simp only [VRel]
   refine ⟨_, _, by rw [hlen], by omega, by omega, fun y hy => h4 y (List.mem_of_mem_take (List.mem_of_mem_drop hy)), ?_⟩
   rcases h5 with rfl | ⟨b, off, rfl, hr⟩
   ·left; simp
   ·by_cases hc : cap = l
    ·left
     have : h = l := by omega
     subst this
     exact List.eq_nil_of_length_eq_zero (by omega)
    ·right
     refine ⟨b, off + l * sz, ?_, ?_⟩
     ·rw [if_neg hc]; simp only [Option.map_some, Option.some.injEq]; unfold Addr.add; split <;> simp_all
     ·exact RRel.drop l (fun y hy => h4 y (List.mem_of_mem_take hy)) (RRel.take h hr)
  ·have hlc : h ≤ cap := by omega
   cases lo with
   | none =>
    have e0 := eln rfl
    subst e0
    cases hi with
    | none =>
     have e1 := ehn rfl
     subst e1
     simp [execOp, hv, Instr.sliceAt, Instr.slice, run_underlying hue, Instr.sliceBounds, Sem.run_bind, sizeOf, typeInfo, hinf, hsz]
    | some y =>
     obtain ⟨k, hy⟩ := ehi y rfl
     simp [execOp, hv, hy, Instr.sliceAt, Instr.slice, run_underlying hue, Instr.sliceBounds, Sem.run_bind, sizeOf, typeInfo, hinf, hsz, Instr.sliceBound, asIntOf, hlc]
   | some z =>
    obtain ⟨kz, hz⟩ := elo z rfl
    cases hi with
    | none =>
     have e1 := ehn rfl
     subst e1
     simp [execOp, hv, hz, Instr.sliceAt, Instr.slice, run_underlying hue, Instr.sliceBounds, Sem.run_bind, sizeOf, typeInfo, hinf, hsz, Instr.sliceBound, asIntOf, hlh]
    | some y =>
     obtain ⟨k, hy⟩ := ehi y rfl
     simp [execOp, hv, hz, hy, Instr.sliceAt, Instr.slice, run_underlying hue, Instr.sliceBounds, Sem.run_bind, sizeOf, typeInfo, hinf, hsz, Instr.sliceBound, asIntOf, hlc, hlh]
theorem uF {x : Operand} {ix : Nat} {l : List AV} {v : AV} (hx : xP env x = some (.tup l)) (hv : l[ix]? = some v) : GOp P ro ⟨dst, .extract x ix, ty, pos, after, guard⟩ env σ (Is v σ) :=
 xZ v (by intro c h; cases h) fun X M a w hg ho => by
  have h1 := ho x (by simp [Op.operands]) _ hx
  simp only [VRel] at h1
  obtain ⟨vs, e, h2⟩ := h1
  obtain ⟨u, h3, h4⟩ := h2.get hv
  exact ⟨u, h4, by simp [execOp, e, Instr.extract, Sem.run_bind, show vs[ix]? = some u by simpa using h3]⟩
def evAs (env : Env) : List Operand → Option (List AV)
 | [] => some []
 | x :: r => match xP env x, evAs env r with
  | some v, some l => some (v :: l)
  | _, _ => none
theorem evAs_rel {M : Mem} {a : Act} {env : Env} : ∀ {xs : List Operand} {l : List AV}, (∀ x ∈ xs, ∀ v, xP env x = some v → VRel M v (a.eval x)) → evAs env xs = some l → VRels M l (xs.map a.eval)
 | [], l, _, h => by simp only [evAs, Option.some.injEq] at h; subst h; simp [VRels]
 | x :: xs, l, hx, h => by
  simp only [evAs] at h
  split at h
  ·rename_i v l' h1 h2
   cases h
   simp only [List.map_cons, VRels]
   exact ⟨_, _, rfl, hx x (by simp) v h1, evAs_rel (fun y hy => hx y (by simp [hy])) h2⟩
  ·cases h
theorem qG {f : Fn} {first cap : Array Operand} {l c : List AV} (h1 : evAs env first.toList = some l) (h2 : evAs env cap.toList = some c) : GOp P ro ⟨dst, .makeFunc f first cap, ty, pos, after, guard⟩ env σ (Is (.fn f l c) σ) :=
 xZ _ (by intro c h; cases h) fun X M a w hg ho => by
  have k1 := evAs_rel (a := a) (M := M) (fun x hx v hv => ho x (by simp only [Op.operands, Array.mem_append]; exact .inl (by simpa using hx)) v hv) h1
  have k2 := evAs_rel (a := a) (M := M) (fun x hx v hv => ho x (by simp only [Op.operands, Array.mem_append]; exact .inr (by simpa using hx)) v hv) h2
  refine ⟨.func f (first.map a.eval) (cap.map a.eval), ?_, by simp [execOp, Instr.makeFunc, Sem.run_bind]⟩
  simp only [VRel]
  exact ⟨_, _, rfl, by simpa using k1, by simpa using k2⟩
def isPtr : AV → Bool
 | .ptr _ _ => true
 | .eptr _ _ => true
 | .rptr _ _ => true
 | _ => false
theorem zK {x : Operand} {v : AV} (hx : xP env x = some v) (hp : isPtr v = true) : GOp P ro ⟨dst, .nilCheck x, ty, pos, after, guard⟩ env σ (Is v σ) :=
 xZ v (by intro c h; cases h) fun X M a w hg ho => by
  have h1 := ho x (by simp [Op.operands]) _ hx
  obtain ⟨ad, e⟩ : ∃ ad, a.eval x = .pointer (some ad) := by
   cases v <;> first | cases hp | skip
   ·simp only [VRel] at h1; exact ⟨_, h1⟩
   ·simp only [VRel] at h1; obtain ⟨b, base, e, _⟩ := h1; exact ⟨_, e⟩
   ·simp only [VRel] at h1; obtain ⟨b, n, cap, _, e⟩ := h1; exact ⟨_, e⟩
  refine ⟨a.eval x, h1, ?_⟩
  simp [execOp, e]
theorem flatten_replicate_get (z : List AV) : ∀ (n i : Nat), i < n * z.length → (List.replicate n z).flatten[i]? = z[i % z.length]?
 | 0, i, h => by simp at h
 | n + 1, i, h => by
  rw [List.replicate_succ, List.flatten_cons]
  by_cases hi : i < z.length
  ·rw [List.getElem?_append_left hi, Nat.mod_eq_of_lt hi]
  ·rw [List.getElem?_append_right (by omega), flatten_replicate_get z n _ (by rw [Nat.add_mul] at h; omega)]
   congr 1
   exact (Nat.mod_eq_sub_mod (by omega)).symm
theorem g_makeSlice {t e : TypeId} {sz bytes n : Nat} {x y : Operand} {kx ky : IntKind} {i j : Int} {z : List AV} (ht : appOf P t = some (e, sz, bytes)) (hz : zeroA P e = some z) (hx : xP env x = some (.int kx i)) (hy : xP env y = some (.int ky j)) (hi : i = (n : Int)) (hj : j = (n : Int)) (hb : n * bytes ≤ 140737488355328) :
  GOp P ro ⟨dst, .makeSlice t x y, ty, pos, after, guard⟩ env σ (Rowed e sz (List.replicate n z) σ) :=
 tW (by intro c h; cases h) fun X M a w hg ho => by
  have h1 := ho x (by simp [Op.operands]) _ hx
  have h2 := ho y (by simp [Op.operands]) _ hy
  simp only [VRel] at h1 h2
  obtain ⟨hue, inf, z', hinf, hz', hsz, hby, hzl, h0, hb0⟩ := appOf_spec ht
  obtain ⟨i', zv, hi', hzv, rfl⟩ := zeroA_spec hz
  rw [hinf] at hi'; cases hi'
  rw [hz'] at hzv; cases hzv
  subst hi hj
  have hn63 : n ≤ 140737488355328 := Nat.le_trans (Nat.le_mul_of_pos_right n hb0) hb
  have hbI : (inf.bytes : Int) * (n : Int) ≤ 281474976710656 := by
   rw [hby]
   have : ((bytes * n : Nat) : Int) ≤ 281474976710656 := by rw [Nat.mul_comm]; omega
   rwa [Int.natCast_mul] at this
  have hr := run_make (P := P) w t e inf z' hue hinf hz' kx ky n n (by omega) (by omega) hbI (by omega)
  simp only [Int.toNat_natCast] at hr
  have hzL : (z'.cells.toList.map cA).length = sz := by simp [hzl]
  have hgd := alloc_row hg (madeCells z'.cells (n * inf.size)) e sz (l := List.replicate n (z'.cells.toList.map cA)) (cap := n) (by simp) (by unfold maxLen; omega) (by rw [size_madeCells, hsz]) (fun x hx => by rw [(List.mem_replicate.1 hx).2, hzL]) (by
   rw [List.take_of_length_le (by simp [size_madeCells, hsz])]
   have h3 := zeros_rel M (z := z') (n := n * inf.size) (fun _ => by omega)
   have e1 : zerosA (z'.cells.toList.map cA) (n * inf.size) = (List.replicate n (z'.cells.toList.map cA)).flatten := by
    apply List.ext_getElem?
    intro k
    by_cases hk : k < n * sz
    ·rw [flatten_replicate_get _ _ _ (by rw [hzL]; exact hk)]
     simp only [zerosA, hsz, List.getElem?_map, List.getElem?_range hk, Option.map_some, hzL]
     have hlt : k % sz < (z'.cells.toList.map cA).length := by rw [hzL]; exact Nat.mod_lt _ h0
     have e2 : ∃ q, (z'.cells.toList.map cA)[k % sz]? = some q := ⟨_, List.getElem?_eq_getElem hlt⟩
     rw [List.getElem?_map] at e2
     obtain ⟨q, e2⟩ := e2
     rw [e2]; rfl
    ·rw [List.getElem?_eq_none (by simp [zerosA, hsz]; omega), List.getElem?_eq_none (by simp [hzl]; omega)]
   rw [← e1]; exact h3)
  simp only [List.length_replicate] at hgd
  refine ⟨M, .slice (some ⟨w.heap.size, 0, none⟩) n n, _, .slv _, _, Mem.le_refl M, hgd, by simp [VRel, Value.isSl], .mk _, .inl ?_⟩
  simp only [execOp, h1, h2, Sem.run_bind, hr, Result.andThen_ok]
  rfl
end
structure SCall (P : Program) (f : FuncId) (args : List AV) (σ : List Ent) (Q : AV → List Ent → Prop) : Prop where
 run : ∀ X M w (vs : Array Value), Good X M σ w → VRels M args vs.toList → Calls P f vs w fun e w' => ∃ M' σ' r v, M.le M' ∧ Good X M' σ' w' ∧ VRel M' r v ∧ e = .returned v ∧ Q r σ'
theorem SCall.mono {P : Program} {f : FuncId} {args : List AV} {σ : List Ent} {Q Q' : AV → List Ent → Prop} (h : SCall P f args σ Q) (hq : ∀ r σ', Q r σ' → Q' r σ') : SCall P f args σ Q' :=
 ⟨fun X M w vs hg ha => (h.run X M w vs hg ha).mono fun _ _ ⟨M', σ', r, v, h1, h2, h3, h4, h5⟩ => ⟨M', σ', r, v, h1, h2, h3, h4, hq _ _ h5⟩⟩
def Ent.mem (w : World) (τ : List Ent) : Mem := fun b => if some b ∈ τ.map Ent.block then w.heap[b]? else none
section
variable {P : Program} {ro : Option Nat} {env : Env} {σ σ' : List Ent} {o : Oper} {dst : Option Tmp} {ty : TypeId} {pos : String} {after : Array Edge} {guard : Option (Nat × Bool)}
theorem callsIn_fence {f : FuncId} {args : Array Value} {w : World} {R : Ending → World → Prop} (h : Calls P f args w R) : CallsIn (uP ro) 0 P f args w R := by
 have h1 := callsIn_wide (n := 0).2 h
 exact h1
theorem xJ {f : Operand} {args : Array Operand} {ats : Array TypeId} {g : FuncId} {first cap l : List AV} {Q : AV → List Ent → Prop} (hf : xP env f = some (.fn (.func g) first cap)) (hl : evAs env args.toList = some l) (he : Enters P g) (h : SCall P g (first ++ l ++ cap) σ Q) :
  GOp P ro ⟨dst, .call { callee := .value f, args := args, argTypes := ats }, ty, pos, after, guard⟩ env σ Q := by
 refine ⟨fun X M a w hg ho K Qx hK => ?_⟩
 have h1 := ho f (by simp [Op.operands, Call.operands]) _ hf
 simp only [VRel] at h1
 obtain ⟨vs, ws, hv, k1, k2⟩ := h1
 have k3 := evAs_rel (a := a) (M := M) (fun x hx v hv => ho x (by simp only [Op.operands, Call.operands, Array.mem_append]; exact .inr (by simpa using hx)) v hv) hl
 refine ⟨fun f _ => uB f ro, ?_⟩
 rw [Oper.semAt_eq _ _ _ (by intro c h; cases h)]
 have hrun : (execOp a.eval ⟨dst, .call { callee := .value f, args := args, argTypes := ats }, ty, pos, after, guard⟩).run P w = .ok (.enter g (vs ++ args.map a.eval ++ ws)) w := by
  simp only [execOp, resolve, Sem.run_bind, hv, Deferred.ofValue, Sem.run_pure, Result.andThen_ok, invoke]
  exact he _ _
 rw [hrun]
 refine ⟨fun hd => (by cases hd), callsIn_fence ((h.run X M w _ hg (by simpa using (k1.append k3).append k2)).mono ?_)⟩
 rintro e w' ⟨M', σ', r, v, hm, hg', hv', rfl, hq⟩
 exact hK M' v w' r σ' hm hg' hv' hq
inductive Rem : List Ent → Ent → List Ent → Prop
 | here {e : Ent} {σ : List Ent} : Rem (e :: σ) e σ
 | there {e x : Ent} {σ σ' : List Ent} : Rem σ e σ' → Rem (x :: σ) e (x :: σ')
theorem Rem.split {e : Ent} (h : Rem σ e σ') : ∃ a c, σ = a ++ e :: c ∧ σ' = a ++ c := by
 induction h with
 | @here e σ => exact ⟨[], σ, rfl, rfl⟩
 | @there e x σ σ' _ ih => obtain ⟨a, c, h1, h2⟩ := ih; exact ⟨x :: a, c, by rw [h1]; rfl, by rw [h2]; rfl⟩
theorem Rem.sub {e : Ent} (h : Rem σ e σ') : σ'.Sublist σ := by
 obtain ⟨a, c, rfl, rfl⟩ := h.split
 exact (List.Sublist.refl a).append (List.sublist_cons_self e c)
theorem Good.rem {X : Fx} {M : Mem} {e : Ent} {w w' : World} (h : Good X M σ w) (hr : Rem σ e σ') (hos : w'.os = w.os) (htp : w'.tape = w.tape) (hout : w'.output = w.output) (hold : ∀ k, e.block ≠ some k → w'.heap[k]? = w.heap[k]?) : Good X M σ' w' := by
 obtain ⟨a, c, rfl, rfl⟩ := hr.split
 have hme : e ∈ a ++ e :: c := by simp
 have hnod := h.nod
 simp only [List.filterMap_append, List.filterMap_cons] at hnod
 have oth : ∀ x ∈ a ++ c, ∀ b, x.block = some b → e.block ≠ some b := by
  intro x hx b hb heq
  rw [heq] at hnod
  simp only [List.nodup_append, List.nodup_cons] at hnod
  rcases List.mem_append.1 hx with hx | hx
  ·exact hnod.2.2 b (List.mem_filterMap.2 ⟨x, hx, hb⟩) b (by simp) rfl
  ·exact hnod.2.1.1 (List.mem_filterMap.2 ⟨x, hx, hb⟩)
 have hsub : ∀ x ∈ a ++ c, x ∈ a ++ e :: c := fun x hx => hr.sub.subset hx
 refine ⟨hos.trans h.os, htp.trans h.tape, hout.trans h.output, fun b o ho => ?_, fun b o ho => ?_, h.dis, ?_, fun x hx => h.own x (hsub x hx), (hr.sub.filterMap _).nodup h.nod⟩
 ·refine (hold b (fun hb => ?_)).trans (h.mem b o ho)
  have := (h.own e hme b hb).1; rw [ho] at this; cases this
 ·refine (hold b (fun hb => ?_)).trans (h.frm b o ho)
  have := (h.own e hme b hb).2; rw [ho] at this; cases this
 ·exact fun x hx => (h.ent x (hsub x hx)).same (fun b hb => hold b (oth x hx b hb))
inductive Marks : List Nat → List Ent → List Ent → Prop
 | nil {σ : List Ent} : Marks [] σ σ
 | cons {D : Nat} {ds : List Nat} {σ σ1 σ2 : List Ent} : Rem σ (.obj D (.deferred (some []))) σ1 → Marks ds σ1 σ2 → Marks (D :: ds) σ σ2
theorem leaves_marks {X : Fx} {M : Mem} {fn : Func} {tmps : Array Value} {R : Ending → World → Prop} {ds : List Nat} {σ σ1 : List Ent} (h : Marks ds σ σ1) : ∀ {w : World}, Good X M σ w → (∀ w', Good X M σ1 w' → ∃ v, (results fn tmps).run P w' = .ok v w' ∧ R (.returned v) w') →
  LeavesInM (uP none) 0 P fn tmps R (marksD ds) .returning w := by
 induction h with
 | nil => intro w hg hr; exact hr w hg
 | @cons D ds σ σ1 σ2 hrem _ ih =>
  intro w hg hr
  obtain ⟨a, c, rfl, rfl⟩ := hrem.split
  have hD : w.heap[D]? = some (.deferred (some [])) := hg.ent (.obj D (.deferred (some []))) (by simp)
  refine ⟨by simp, .inl ⟨D, w.putObj D (.deferred none), rfl, run_takeDeferred hD, ih ?_ hr⟩⟩
  exact hg.rem hrem rfl rfl rfl (fun k hk => World.putObj_heap_other (fun e => hk (by simp [Ent.block, e])))
inductive Res1 (P : Program) (env : Env) (σ : List Ent) : ResultVar → AV → Prop
 | ofTmp {t : Tmp} {v : AV} (h : lk env t = some v) : Res1 P env σ (.tmp t) v
 | ofCell {a : Tmp} {t : TypeId} {sz : Nat} {p v : AV} (h : lk env a = some p) (ht : tyOf P t = some (false, sz)) (hp : Pts σ p 0 v) : Res1 P env σ (.cell a t) v
 | ofAgg {a : Tmp} {t : TypeId} {sz : Nat} {p : AV} {L : List AV} (h : lk env a = some p) (ht : tyOf P t = some (true, sz)) (h0 : 0 < sz) (hp : Slab σ p sz L) : Res1 P env σ (.cell a t) (.agg L)
inductive Res (P : Program) (env : Env) (σ : List Ent) : List ResultVar → List AV → Prop
 | nil : Res P env σ [] []
 | cons {r : ResultVar} {rs : List ResultVar} {v : AV} {vs : List AV} : Res1 P env σ r v → Res P env σ rs vs → Res P env σ (r :: rs) (v :: vs)
def oneA : List AV → AV
 | [v] => v
 | vs => .tup vs
def resV (tmps : Array Value) : ResultVar → Sem Value
 | .tmp t => pure (tmps.getD t undef)
 | .cell a t => do loadVar t (← asAddr (tmps.getD a undef))
theorem results_eq (fn : Func) (tmps : Array Value) : results fn tmps = (do let vs ← fn.results.mapM (resV tmps); pure (if h : vs.size = 1 then vs[0] else .tuple vs)) := by
 unfold results
 congr 1
theorem Res1.run {X : Fx} {M : Mem} {tmps : Array Value} {w : World} {r : ResultVar} {v : AV} (h : Res1 P env σ r v) (hg : Good X M σ w) (he : EnvRel M env tmps) :
  ∃ u, (resV tmps r).run P w = .ok u w ∧ VRel M v u := by
 cases h with
 | ofTmp h =>
  obtain ⟨u, h1, h2⟩ := he _ _ h
  exact ⟨u, by simp [resV, Array.getD_eq_getD_getElem?, h1], h2⟩
 | ofCell h ht hp =>
  obtain ⟨u, h1, h2⟩ := he _ _ h
  obtain ⟨ad, z, rfl, _, h3, h4⟩ := hp.cell hg h2
  obtain ⟨k1, k2⟩ := tU ht w
  have h3' : w.cell? ad = some z := by simpa [Addr.add] using h3
  exact ⟨z, by simp [resV, Array.getD_eq_getD_getElem?, h1, asAddr, loadVar, Sem.run_bind, k1, run_load, h3'], h4⟩
 | ofAgg h ht h0 hp =>
  obtain ⟨u, h1, h2⟩ := he _ _ h
  obtain ⟨ad, rfl, h3⟩ := hp.addr hg h0 h2
  obtain ⟨vs, h4, h5⟩ := run_loadAgg (P := P) h3
  obtain ⟨k1, k2⟩ := tU ht w
  rw [hp.pts.1] at h4
  exact ⟨.agg vs, by simp [resV, Array.getD_eq_getD_getElem?, h1, asAddr, loadVar, Sem.run_bind, k1, k2, h4], ⟨vs, rfl, h5⟩⟩
theorem Res.run {X : Fx} {M : Mem} {tmps : Array Value} {w : World} {rs : List ResultVar} {vs : List AV} (h : Res P env σ rs vs) (hg : Good X M σ w) (he : EnvRel M env tmps) :
  ∃ us, (rs.mapM (resV tmps)).run P w = .ok us w ∧ VRels M vs us := by
 induction h with
 | nil => exact ⟨[], rfl, by simp [VRels]⟩
 | cons h1 _ ih =>
  obtain ⟨us, e1, e2⟩ := ih
  obtain ⟨u, e3, e4⟩ := h1.run hg he
  refine ⟨u :: us, ?_, by simp only [VRels]; exact ⟨u, us, rfl, e4, e2⟩⟩
  rw [List.mapM_cons, Sem.run_bind, e3]
  simp only [Result.andThen_ok, Sem.run_bind, e1, Sem.run_pure]
theorem results_run {X : Fx} {M : Mem} {fn : Func} {tmps : Array Value} {w : World} {vs : List AV} (h : Res P env σ fn.results.toList vs) (hg : Good X M σ w) (he : EnvRel M env tmps) : ∃ u, (results fn tmps).run P w = .ok u w ∧ VRel M (oneA vs) u := by
 obtain ⟨us, h1, h2⟩ := h.run hg he
 have hl := h2.length
 rw [results_eq, Array.mapM_eq_mapM_toList]
 simp only [Functor.map]
 rw [show ∀ (m : Sem (List Value)), m.bind (Sem.pure ∘ List.toArray) = m >>= fun l => pure l.toArray from fun _ => rfl]
 simp only [Sem.run_bind, h1, Result.andThen_ok, Sem.run_pure]
 match vs, us, h2, hl with
 | [], [], h2, _ => exact ⟨.tuple #[], by simp, by simp [oneA, VRel, VRels]⟩
 | [v], [u], h2, _ => simp only [VRels, List.cons.injEq] at h2; obtain ⟨_, _, ⟨rfl, rfl⟩, h2, _⟩ := h2; exact ⟨u, by simp, h2⟩
 | v :: v' :: vs, u :: u' :: us, h2, _ => exact ⟨.tuple (u :: u' :: us).toArray, by simp, by simp only [oneA, VRel]; exact ⟨_, rfl, by simpa using h2⟩⟩
def Fin (σ : List Ent) (r : AV) (Q : AV → List Ent → Prop) : Prop :=
 ∀ X M w u, Good X M σ w → VRel M r u → ∃ M' σ' r', M.le M' ∧ Good X M' σ' w ∧ VRel M' r' u ∧ Q r' σ'
theorem zJ {r : AV} {Q : AV → List Ent → Prop} (h : Q r σ) : Fin σ r Q := fun _ M _ _ hg hv => ⟨M, σ, r, Mem.le_refl M, hg, hv, h⟩
theorem fin_drop {r : AV} {Q : AV → List Ent → Prop} (hs : σ'.Sublist σ) (h : Fin σ' r Q) : Fin σ r Q := fun X M w u hg hv => h X M w u (hg.sub hs) hv
theorem fin_view {r r' : AV} {Q : AV → List Ent → Prop} (hv : ∀ M u, VRel M r u → VRel M r' u) (h : Fin σ r' Q) : Fin σ r Q := fun X M w u hg hr => h X M w u hg (hv M u hr)
theorem Good.shut {X : Fx} {M : Mem} {v : Value} {e : TypeId} {sz : Nat} {l : List (List AV)} {w : World} (h : Good X M σ w) (hr : Rem σ (.row v e sz l) σ') : ∃ M', M.le M' ∧ Good X M' σ' w ∧ VRel M' (.dl sz l) v := by
 obtain ⟨a, c, rfl, rfl⟩ := hr.split
 have hme : Ent.row v e sz l ∈ a ++ Ent.row v e sz l :: c := by simp
 obtain ⟨xs, hown, hrel, hs⟩ := h.ent _ hme
 have hsub : ∀ x ∈ a ++ c, x ∈ a ++ Ent.row v e sz l :: c := fun x hx => hr.sub.subset hx
 rcases hown.2 with ⟨rfl, h0⟩ | ⟨g, cap, cur, rfl, hb, hgg, hnc, hcm, hcs, htk⟩
 ·refine ⟨M, Mem.le_refl M, h.sub hr.sub, ?_⟩
  have : l = [] := List.eq_nil_of_length_eq_zero h0
  subst this
  simp only [VRel]
  exact ⟨none, 0, rfl, by simp, by omega, by simp, by simp⟩
 ·have hno : M g = none ∧ X.fr g = none := h.own _ hme g rfl
  have hle : M.le (fun b => if b = g then some (.cells cur e (0, 0)) else M b) := fun b o ho => by
   simp only
   split
   ·rename_i hb'; subst hb'; rw [hno.1] at ho; cases ho
   ·exact ho
  refine ⟨_, hle, ⟨h.os, h.tape, h.output, ?_, h.frm, ?_, fun x hx => (h.ent x (hsub x hx)).mono hle, ?_, (hr.sub.filterMap _).nodup h.nod⟩, ?_⟩
  ·intro b o ho
   split at ho
   ·rename_i hb'; subst hb'; cases ho; exact hgg
   ·exact h.mem b o ho
  ·intro b o ho
   split at ho
   ·rename_i hb'; subst hb'; exact hno.2
   ·exact h.dis b o ho
  ·intro x hx b hb'
   refine ⟨?_, (h.own x (hsub x hx) b hb').2⟩
   split
   ·rename_i hbg
    subst hbg
    have hnod := h.nod
    simp only [List.filterMap_append, List.filterMap_cons, Ent.block, Value.ownBlock, List.nodup_append, List.nodup_cons] at hnod
    rcases List.mem_append.1 hx with hx | hx
    ·exact absurd rfl (hnod.2.2 b (List.mem_filterMap.2 ⟨x, hx, hb'⟩) b (by simp))
    ·exact absurd (List.mem_filterMap.2 ⟨x, hx, hb'⟩) hnod.2.1.1
   ·exact (h.own x (hsub x hx) b hb').1
  ·simp only [VRel]
   refine ⟨_, cap, rfl, hnc, hcm, hs, .inr ⟨g, 0, rfl, RRel.of_cells (VRels.mono hle _ _ hrel) (fun j v hv => ?_)⟩⟩
   unfold Mem.cell
   simp only [if_true]
   rw [← htk, List.getElem?_take] at hv
   split at hv
   ·simpa using hv
   ·cases hv
inductive Cv (v : Value) (x : AV) : List AV → List AV → Prop
 | nil : Cv v x [] []
 | here {l l' : List AV} : Cv v x l l' → Cv v x (.slv v :: l) (x :: l')
 | same {y : AV} {l l' : List AV} : Cv v x l l' → Cv v x (y :: l) (y :: l')
 | agg {m m' l l' : List AV} : Cv v x m m' → Cv v x l l' → Cv v x (.agg m :: l) (.agg m' :: l')
 | tup {m m' l l' : List AV} : Cv v x m m' → Cv v x l l' → Cv v x (.tup m :: l) (.tup m' :: l')
theorem Cv.rel {M : Mem} {v : Value} {x : AV} (hx : VRel M x v) {l l' : List AV} (h : Cv v x l l') : ∀ {vs : List Value}, VRels M l vs → VRels M l' vs := by
 induction h with
 | nil => exact fun h => h
 | here _ ih => intro vs h; simp only [VRels] at h ⊢; obtain ⟨u, r, rfl, h1, h2⟩ := h; simp only [VRel] at h1; obtain ⟨rfl, _⟩ := h1; exact ⟨_, _, rfl, hx, ih h2⟩
 | same _ ih => intro vs h; simp only [VRels] at h ⊢; obtain ⟨u, r, rfl, h1, h2⟩ := h; exact ⟨_, _, rfl, h1, ih h2⟩
 | agg _ _ ih1 ih2 => intro vs h; simp only [VRels, VRel] at h ⊢; obtain ⟨u, r, rfl, ⟨ws, rfl, h1⟩, h2⟩ := h; exact ⟨_, _, rfl, ⟨ws, rfl, ih1 h1⟩, ih2 h2⟩
 | tup _ _ ih1 ih2 => intro vs h; simp only [VRels, VRel] at h ⊢; obtain ⟨u, r, rfl, ⟨ws, rfl, h1⟩, h2⟩ := h; exact ⟨_, _, rfl, ⟨ws, rfl, ih1 h1⟩, ih2 h2⟩
theorem Cv.rel1 {M : Mem} {v : Value} {x r r' : AV} (hx : VRel M x v) (h : Cv v x [r] [r']) {u : Value} (hr : VRel M r u) : VRel M r' u := by
 have := h.rel hx (vs := [u]) (by simp only [VRels]; exact ⟨u, [], rfl, hr, rfl⟩)
 simp only [VRels, List.cons.injEq] at this
 obtain ⟨_, _, ⟨rfl, _⟩, h, _⟩ := this
 exact h
theorem vV {r r' : AV} {Q : AV → List Ent → Prop} {v : Value} {e : TypeId} {sz : Nat} {l : List (List AV)} (hr : Rem σ (.row v e sz l) σ') (hc : Cv v (.dl sz l) [r] [r']) (h : Fin σ' r' Q) : Fin σ r Q := fun X M w u hg hv => by
 obtain ⟨M1, h1, h2, h3⟩ := hg.shut hr
 obtain ⟨M2, σ2, r2, h4, h5, h6, h7⟩ := h X M1 w u h2 (hc.rel1 h3 (hv.mono h1))
 exact ⟨M2, σ2, r2, Mem.le_trans h1 h4, h5, h6, h7⟩
theorem wJ {r r' : AV} {Q : AV → List Ent → Prop} {sz : Nat} (hc : Cv nilS (.dl sz []) [r] [r']) (h : Fin σ r' Q) : Fin σ r Q :=
 fin_view (fun M u hv => hc.rel1 (by simp only [VRel]; exact ⟨none, 0, rfl, by simp, by omega, by simp, by simp⟩) hv) h
def RetOK (P : Program) (fn : Func) (Q : AV → List Ent → Prop) (s : St) : Prop := ∃ vs σ1, Marks s.marks s.σ σ1 ∧ Res P s.env σ1 fn.results.toList vs ∧ Fin σ1 (oneA vs) Q
def yK (P : Program) (fn : Func) (Q : AV → List Ent → Prop) : Exit → St → Prop
 | .ret, s => RetOK P fn Q s
 | .normal, s => RetOK P fn Q s
 | _, _ => False
def pR : Nat → List AV → Env
 | _, [] => []
 | k, v :: r => (k, v) :: pR (k + 1) r
theorem argsEnv_get : ∀ (l : List AV) (k t : Nat) (v : AV), lk (pR k l) t = some v → k ≤ t ∧ l[t - k]? = some v
 | [], k, t, v, h => by simp [pR, lk] at h
 | x :: l, k, t, v, h => by
  by_cases e : k = t
  ·subst e; simp only [pR] at h; rw [vS] at h; simpa using h
  ·simp only [pR] at h
   rw [tL e] at h
   obtain ⟨h1, h2⟩ := argsEnv_get l (k + 1) t v h
   refine ⟨by omega, ?_⟩
   rw [show t - k = (t - (k + 1)) + 1 by omega]
   simpa using h2
theorem zL {f : FuncId} {fn : Func} {c : Code} {args : List AV} {Q : AV → List Ent → Prop} (hf : P.funcs[f]? = some fn) (hb : fn.body = some c) (hn : args.length ≤ fn.ntmps)
  (h : EX P none c (yK P fn Q) ⟨pR 0 args, σ, [], fn.ntmps⟩) : SCall P f args σ Q := by
 refine ⟨fun X0 M w vs hg0 ha => ?_⟩
 obtain ⟨X, hX⟩ : ∃ X : Fx, X = { X0 with dt := [] } := ⟨_, rfl⟩
 have hg : Good X M σ w := hX ▸ hg0.dt []
 have back : ∀ {M σ w}, Good X M σ w → Good X0 M σ w := fun h => (hX ▸ h : Good { X0 with dt := [] } _ _ _).undt
 have hl := ha.length
 simp only [Array.length_toList] at hl
 refine callsIn_wide (n := 0).1 (callsIn_of_wp_marks hf hb trivial ?_)
 have hs : Sim X M ⟨pR 0 args, σ, [], fn.ntmps⟩ { tmps := vs ++ Array.replicate (fn.ntmps - vs.size) undef, defers := [] } w := by
  refine ⟨hg, by simp; omega, by rw [hX]; rfl, fun t v hv => ?_⟩
  obtain ⟨_, h2⟩ := argsEnv_get _ _ _ _ hv
  obtain ⟨u, h3, h4⟩ := ha.get h2
  refine ⟨u, ?_, h4⟩
  simp only [Nat.sub_zero, Array.getElem?_toList] at h3
  have hlt : t < vs.size := by rcases Nat.lt_or_ge t vs.size with h | h; exact h; rw [Array.getElem?_eq_none h] at h3; cases h3
  rw [Array.getElem?_append_left hlt]; exact h3
 refine Go.wpIn_mono (h.run X M _ w hs) ?_
 rintro e a' w' ⟨M', s', hm, hs', hq⟩
 have fin : RetOK P fn Q s' → LeavesInM Fence.wide 0 P fn a'.tmps (fun e w' => ∃ M' σ' r v, M.le M' ∧ Good X0 M' σ' w' ∧ VRel M' r v ∧ e = .returned v ∧ Q r σ') a'.defers .returning w' := by
  rintro ⟨rs, σ1, h1, h2, h3⟩
  rw [hs'.defs, show X.dt = [] by rw [hX], List.append_nil]
  refine leaves_marks h1 hs'.good (fun w2 hg2 => ?_)
  obtain ⟨u, hu, hv⟩ := results_run h2 hg2 hs'.env
  obtain ⟨M2, σ2, r2, k1, k2, k3, k4⟩ := h3 X M' w2 u hg2 hv
  exact ⟨u, hu, M2, σ2, r2, u, Mem.le_trans hm k1, back k2, k3, rfl, k4⟩
 cases e with
 | ret => exact fin hq
 | normal => exact fin hq
 | exit id => exact hq.elim
 | goto l => exact hq.elim
 | panic ch => exact hq.elim
 | outgrown => exact hq.elim
end
end Go.Proofs.YtkhoengjdfmfaaaGreat
