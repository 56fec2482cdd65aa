/- A logic of abstract values, first part: abstract values, what they stand for in memory, owned entries. -/
import Derived.Test.YtobcnochlkdpaaaSm
import Derived.TacticsIn
import Derived.RangeFuncRecord
import Derived.RangeFuncLeaves
import Derived.Laws.AppendOwn
import Derived.Below
import Derived.KernelRfl
namespace Go.Proofs.Ytobcnochlkdpaaa
set_option linter.unusedSimpArgs false
set_option linter.unusedVariables false

/-- Memory that does not change: some blocks. -/
abbrev Mem := Nat → Option Obj
def Mem.le (M M' : Mem) : Prop := ∀ b o, M b = some o → M' b = some o
theorem Mem.le_refl (M : Mem) : M.le M := fun _ _ h => h
theorem Mem.le_trans {A B C : Mem} (h : A.le B) (k : B.le C) : A.le C := fun b o ho => k b o (h b o ho)
def Mem.cell (M : Mem) (b i : Nat) : Option Value := match M b with | some (.cells c _ _) => c[i]? | _ => none
theorem Mem.cell_mono {M M' : Mem} (h : M.le M') {b i : Nat} {v : Value} (hc : M.cell b i = some v) : M'.cell b i = some v := by
  unfold Mem.cell at *
  cases ho : M b with
  | none => rw [ho] at hc; cases hc
  | some o => rw [ho] at hc; rw [h b o ho]; exact hc

/-- An abstract value. dl: an immutable slice with its elements (each the list of its cells). ptr: into an owned block. eptr: into an immutable element. slv: an owned slice, by its own value. rptr: into an owned slice, at a cell. raw: just that value. -/
inductive AV where
  | int (k : IntKind) (n : Int)
  | bool (b : Bool)
  | str (s : ByteArray)
  | agg (l : List AV)
  | tup (l : List AV)
  | dl (sz : Nat) (l : List (List AV))
  | ptr (b o : Nat)
  | eptr (l : List AV) (o : Nat)
  | slv (v : Value)
  | rptr (v : Value) (i : Nat)
  | fn (f : Fn) (first cap : List AV)
  | mp (b : Nat)
  | raw (v : Value)
  deriving Inhabited

abbrev nilS : Value := .slice none 0 0
def _root_.Go.Value.isSl : Value → Bool
  | .slice _ _ _ => true
  | _ => false

mutual
/-- What an abstract value stands for. -/
def VRel (M : Mem) : AV → Value → Prop
  | .int k n, v => v = .int k n
  | .bool b, v => v = .bool b
  | .str s, v => v = .string s
  | .agg l, v => ∃ vs, v = .agg vs ∧ VRels M l vs.toList
  | .tup l, v => ∃ vs, v = .tuple vs ∧ VRels M l vs.toList
  | .dl sz l, v => ∃ a cap, v = .slice a l.length cap ∧ l.length ≤ cap ∧ cap ≤ maxLen ∧ (∀ x ∈ l, x.length = sz) ∧ (l = [] ∨ ∃ b off, a = some ⟨b, off, none⟩ ∧ RRel M b off l)
  | .ptr b o, v => v = .pointer (some ⟨b, o, none⟩)
  | .eptr l o, v => ∃ b base, v = .pointer (some ⟨b, base + o, none⟩) ∧ CRel M b base l
  | .slv u, v => v = u ∧ u.isSl = true
  | .rptr u i, v => ∃ b n cap, u = .slice (some ⟨b, 0, none⟩) n cap ∧ v = .pointer (some ⟨b, i, none⟩)
  | .fn f a c, v => ∃ vs ws, v = .func f vs ws ∧ VRels M a vs.toList ∧ VRels M c ws.toList
  | .mp b, v => v = .map (some b)
  | .raw u, v => v = u
def VRels (M : Mem) : List AV → List Value → Prop
  | [], vs => vs = []
  | x :: l, vs => ∃ v r, vs = v :: r ∧ VRel M x v ∧ VRels M l r
/-- Cells that lie in a row. -/
def CRel (M : Mem) (b : Nat) : Nat → List AV → Prop
  | _, [] => True
  | i, x :: l => (∃ v, M.cell b i = some v ∧ VRel M x v) ∧ CRel M b (i + 1) l
def RRel (M : Mem) (b : Nat) : Nat → List (List AV) → Prop
  | _, [] => True
  | i, x :: l => CRel M b i x ∧ RRel M b (i + x.length) l
end

mutual
theorem VRel.mono {M M' : Mem} (h : M.le M') : ∀ (x : AV) (v : Value), VRel M x v → VRel M' x v
  | .int k n, v, hv => by simpa [VRel] using hv
  | .bool b, v, hv => by simpa [VRel] using hv
  | .str s, v, hv => by simpa [VRel] using hv
  | .agg l, v, hv => by simp only [VRel] at *; obtain ⟨vs, e, k⟩ := hv; exact ⟨vs, e, VRels.mono h l _ k⟩
  | .tup l, v, hv => by simp only [VRel] at *; obtain ⟨vs, e, k⟩ := hv; exact ⟨vs, e, VRels.mono h l _ k⟩
  | .dl sz l, v, hv => by
    simp only [VRel] at *
    obtain ⟨a, cap, e, h1, h2, h3, k⟩ := hv
    refine ⟨a, cap, e, h1, h2, h3, ?_⟩
    rcases k with k | ⟨b, off, e2, k⟩
    · exact .inl k
    · exact .inr ⟨b, off, e2, RRel.mono h l b off k⟩
  | .ptr b o, v, hv => by simpa [VRel] using hv
  | .eptr l o, v, hv => by simp only [VRel] at *; obtain ⟨b, base, e, k⟩ := hv; exact ⟨b, base, e, CRel.mono h l b base k⟩
  | .slv u, v, hv => by simpa [VRel] using hv
  | .rptr u i, v, hv => by simpa [VRel] using hv
  | .fn f a c, v, hv => by simp only [VRel] at *; obtain ⟨vs, ws, e, k1, k2⟩ := hv; exact ⟨vs, ws, e, VRels.mono h a _ k1, VRels.mono h c _ k2⟩
  | .mp b, v, hv => by simpa [VRel] using hv
  | .raw u, v, hv => by simpa [VRel] using hv
theorem VRels.mono {M M' : Mem} (h : M.le M') : ∀ (l : List AV) (vs : List Value), VRels M l vs → VRels M' l vs
  | [], vs, hv => by simpa [VRels] using hv
  | x :: l, vs, hv => by simp only [VRels] at *; obtain ⟨v, r, e, k1, k2⟩ := hv; exact ⟨v, r, e, VRel.mono h x v k1, VRels.mono h l r k2⟩
theorem CRel.mono {M M' : Mem} (h : M.le M') : ∀ (l : List AV) (b i : Nat), CRel M b i l → CRel M' b i l
  | [], _, _, _ => by simp [CRel]
  | x :: l, b, i, hv => by simp only [CRel] at *; obtain ⟨⟨v, h1, h2⟩, k⟩ := hv; exact ⟨⟨v, Mem.cell_mono h h1, VRel.mono h x v h2⟩, CRel.mono h l b (i + 1) k⟩
theorem RRel.mono {M M' : Mem} (h : M.le M') : ∀ (l : List (List AV)) (b i : Nat), RRel M b i l → RRel M' b i l
  | [], _, _, _ => by simp [RRel]
  | x :: l, b, i, hv => by simp only [RRel] at *; exact ⟨CRel.mono h x b i hv.1, RRel.mono h l b (i + x.length) hv.2⟩
end

theorem VRels.length {M : Mem} : ∀ {l : List AV} {vs : List Value}, VRels M l vs → vs.length = l.length
  | [], vs, h => by simp only [VRels] at h; simp [h]
  | x :: l, vs, h => by simp only [VRels] at h; obtain ⟨v, r, rfl, _, k⟩ := h; simp [VRels.length k]
theorem VRels.get {M : Mem} : ∀ {l : List AV} {vs : List Value} {i : Nat} {x : AV}, VRels M l vs → l[i]? = some x → ∃ v, vs[i]? = some v ∧ VRel M x v
  | [], _, i, x, _, h => by simp at h
  | y :: l, vs, i, x, hv, h => by
    simp only [VRels] at hv
    obtain ⟨v, r, rfl, k1, k2⟩ := hv
    cases i with
    | zero => simp at h; subst h; exact ⟨v, rfl, k1⟩
    | succ i => simp at h; simpa using VRels.get k2 h
theorem VRels.of_get {M : Mem} : ∀ {l : List AV} {vs : List Value}, vs.length = l.length → (∀ (i : Nat) (x : AV) (v : Value), l[i]? = some x → vs[i]? = some v → VRel M x v) → VRels M l vs
  | [], vs, hl, _ => by simp only [VRels]; exact List.eq_nil_of_length_eq_zero (by simpa using hl)
  | y :: l, [], hl, _ => by simp at hl
  | y :: l, v :: r, hl, h => by
    simp only [VRels]
    exact ⟨v, r, rfl, h 0 y v rfl rfl, VRels.of_get (by simpa using hl) (fun i x v h1 h2 => h (i + 1) x v (by simpa using h1) (by simpa using h2))⟩
theorem VRels.append {M : Mem} {l l' : List AV} {vs vs' : List Value} (h : VRels M l vs) (h' : VRels M l' vs') : VRels M (l ++ l') (vs ++ vs') := by
  have e1 := h.length
  have e2 := h'.length
  refine VRels.of_get (by simp [e1, e2]) (fun i x v h1 h2 => ?_)
  by_cases hi : i < l.length
  · rw [List.getElem?_append_left hi] at h1
    rw [List.getElem?_append_left (by omega)] at h2
    obtain ⟨v', e, k⟩ := h.get h1
    rw [h2] at e; cases e; exact k
  · rw [List.getElem?_append_right (by omega)] at h1
    rw [List.getElem?_append_right (by omega)] at h2
    obtain ⟨v', e, k⟩ := h'.get h1
    rw [e1, e] at h2; cases h2; exact k
theorem VRels.take {M : Mem} {l : List AV} {vs : List Value} (h : VRels M l vs) (n : Nat) : VRels M (l.take n) (vs.take n) := by
  have e1 := h.length
  refine VRels.of_get (by simp [e1]) (fun i x v h1 h2 => ?_)
  rw [List.getElem?_take] at h1 h2
  split at h1
  · rename_i hi
    rw [if_pos hi] at h2
    obtain ⟨v', e, k⟩ := h.get h1
    rw [h2] at e; cases e; exact k
  · cases h1
theorem VRels.drop {M : Mem} {l : List AV} {vs : List Value} (h : VRels M l vs) (n : Nat) : VRels M (l.drop n) (vs.drop n) := by
  have e1 := h.length
  refine VRels.of_get (by simp [e1]) (fun i x v h1 h2 => ?_)
  rw [List.getElem?_drop] at h1 h2
  obtain ⟨v', e, k⟩ := h.get h1
  rw [h2] at e; cases e; exact k
theorem VRels.set {M : Mem} {l : List AV} {vs : List Value} (h : VRels M l vs) (n : Nat) {x : AV} {v : Value} (hx : VRel M x v) : VRels M (l.set n x) (vs.set n v) := by
  have e1 := h.length
  refine VRels.of_get (by simp [e1]) (fun i y u h1 h2 => ?_)
  rw [List.getElem?_set] at h1 h2
  by_cases e : n = i
  · subst e
    rw [if_pos rfl] at h1 h2
    split at h1 <;> split at h2 <;> simp_all
  · rw [if_neg e] at h1 h2
    obtain ⟨v', e, k⟩ := h.get h1
    rw [h2] at e; cases e; exact k

theorem CRel.get {M : Mem} {b : Nat} : ∀ {l : List AV} {i j : Nat} {x : AV}, CRel M b i l → l[j]? = some x → ∃ v, M.cell b (i + j) = some v ∧ VRel M x v
  | [], _, _, _, _, h => by simp at h
  | y :: l, i, j, x, hc, h => by
    simp only [CRel] at hc
    cases j with
    | zero => simp at h; subst h; exact hc.1
    | succ j => simp at h; have := CRel.get hc.2 h; rwa [show i + 1 + j = i + (j + 1) by omega] at this
theorem RRel.get {M : Mem} {b sz : Nat} : ∀ {l : List (List AV)} {i k : Nat} {x : List AV}, (∀ x ∈ l, x.length = sz) → RRel M b i l → l[k]? = some x → CRel M b (i + k * sz) x
  | [], _, _, _, _, _, h => by simp at h
  | y :: l, i, k, x, hs, hc, h => by
    simp only [RRel] at hc
    cases k with
    | zero => simp at h; subst h; simpa using hc.1
    | succ k =>
      simp at h
      have := RRel.get (fun x hx => hs x (by simp [hx])) hc.2 h
      rw [hs y (by simp)] at this
      rwa [show i + sz + k * sz = i + (k + 1) * sz by rw [Nat.add_mul]; omega] at this
theorem RRel.drop {M : Mem} {b sz : Nat} : ∀ {l : List (List AV)} {i : Nat} (k : Nat), (∀ x ∈ l, x.length = sz) → RRel M b i l → RRel M b (i + k * sz) (l.drop k)
  | [], _, k, _, _ => by simp [RRel]
  | y :: l, i, 0, _, h => by simpa using h
  | y :: l, i, k + 1, hs, h => by
    simp only [RRel] at h
    have := RRel.drop k (fun x hx => hs x (by simp [hx])) h.2
    rw [hs y (by simp)] at this
    rw [show i + (k + 1) * sz = i + sz + k * sz by rw [Nat.add_mul]; omega]
    simpa using this
theorem RRel.take {M : Mem} {b : Nat} : ∀ {l : List (List AV)} {i : Nat} (k : Nat), RRel M b i l → RRel M b i (l.take k)
  | [], _, k, _ => by simp [RRel]
  | y :: l, i, 0, _ => by simp [RRel]
  | y :: l, i, k + 1, h => by simp only [List.take_succ_cons, RRel] at *; exact ⟨h.1, RRel.take k h.2⟩
theorem CRel.of_cells {M : Mem} {b : Nat} : ∀ {l : List AV} {vs : List Value} {i : Nat}, VRels M l vs → (∀ j v, vs[j]? = some v → M.cell b (i + j) = some v) → CRel M b i l
  | [], _, _, _, _ => by simp [CRel]
  | x :: l, vs, i, h, hc => by
    simp only [VRels] at h
    obtain ⟨v, r, rfl, k1, k2⟩ := h
    simp only [CRel]
    exact ⟨⟨v, by simpa using hc 0 v rfl, k1⟩, CRel.of_cells k2 (fun j u hu => by have := hc (j + 1) u (by simpa using hu); rwa [show i + (j + 1) = i + 1 + j by omega] at this)⟩
theorem RRel.of_cells {M : Mem} {b : Nat} : ∀ {l : List (List AV)} {vs : List Value} {i : Nat}, VRels M l.flatten vs → (∀ j v, vs[j]? = some v → M.cell b (i + j) = some v) → RRel M b i l
  | [], _, _, _, _ => by simp [RRel]
  | x :: l, vs, i, h, hc => by
    simp only [List.flatten_cons] at h
    have e := h.length
    simp at e
    have h1 := h.take x.length
    have h2 := h.drop x.length
    rw [List.take_left] at h1
    rw [List.drop_left] at h2
    simp only [RRel]
    exact ⟨CRel.of_cells h1 (fun j v hv => by rw [List.getElem?_take] at hv; split at hv; exact hc j v hv; cases hv), RRel.of_cells h2 (fun j v hv => by rw [List.getElem?_drop] at hv; have := hc _ v hv; rwa [← Nat.add_assoc] at this)⟩

/-- Whatever an abstract value stands for takes one cell, if it is no compound. -/
def AV.one : AV → Bool
  | .agg _ => false
  | .tup _ => false
  | .raw v => v.oneCell'
  | _ => true
theorem VRel.one {M : Mem} {x : AV} {v : Value} (h : VRel M x v) (ho : x.one = true) : v.oneCell' = true := by
  cases x <;> simp only [VRel, AV.one] at * <;> first
    | (obtain ⟨rfl, h⟩ := h; cases v <;> first | rfl | cases h)
    | (subst h; first | rfl | exact ho)
    | (obtain ⟨a, b, rfl, _⟩ := h; rfl)
    | (obtain ⟨a, b, c, _, rfl⟩ := h; rfl)
    | cases ho

abbrev Env := List (Nat × AV)
def lk : Env → Nat → Option AV
  | [], _ => none
  | (t, v) :: r, u => match Nat.beq t u with | true => some v | false => lk r u
theorem lk_cons_same (t : Nat) (v : AV) (r : Env) : lk ((t, v) :: r) t = some v := by simp [lk]
theorem lk_cons_ne {t u : Nat} (h : t ≠ u) (v : AV) (r : Env) : lk ((t, v) :: r) u = lk r u := by
  have : Nat.beq t u = false := by cases hb : Nat.beq t u with
    | false => rfl
    | true => exact absurd (Nat.eq_of_beq_eq_true hb) h
  simp [lk, this]
def EnvRel (M : Mem) (env : Env) (tmps : Array Value) : Prop := ∀ t v, lk env t = some v → ∃ u, tmps[t]? = some u ∧ VRel M v u
theorem EnvRel.mono {M M' : Mem} (h : M.le M') {env : Env} {tmps : Array Value} (he : EnvRel M env tmps) : EnvRel M' env tmps :=
  fun t v hv => let ⟨u, h1, h2⟩ := he t v hv; ⟨u, h1, VRel.mono h _ _ h2⟩

/-- An owned thing: a block of cells; an owned row; the block of a loop's deferred calls; a loop's record; any other object. glob: no one's: a block that does not change. -/
inductive Ent where
  | cells (b : Nat) (l : List AV) (t : TypeId)
  | row (v : Value) (e : TypeId) (sz : Nat) (l : List (List AV))
  | obj (b : Nat) (o : Obj)
  | imap (b : Nat) (f : Int → Option AV) (n : Nat)
  | loop (b : Nat) (st : LoopState) (pe : Option Code) (fn : FuncId) (env : Env) (n : Nat) (ps : Array Tmp) (asg body : Code) (D : Nat)
  | glob (b : Nat) (l : List AV)

def Ent.at (M : Mem) (w : World) : Ent → Prop
  | .cells b l t => ∃ c, w.heap[b]? = some (.cells c t (0, 0)) ∧ VRels M l c.toList
  | .row v e sz l => ∃ xs, w.ownsRow 0 e sz v l.length xs ∧ VRels M l.flatten xs ∧ (∀ x ∈ l, x.length = sz)
  | .obj b o => w.heap[b]? = some o
  | .imap b f n => ∃ g, MapN w b g n ∧ ∀ k, match f k, g k with
    | some x, some v => VRel M x v
    | none, none => True
    | _, _ => False
  | .loop b st pe fn env n ps asg body D => ∃ tmps, tmps.size = n ∧ EnvRel M env tmps ∧ w.heap[b]? = some (.loop { state := st, pending := pe, fn := fn, tmps := tmps, params := ps, assign := asg, body := body, defers := D })
  | .glob b l => CRel M b 0 l
def Ent.block : Ent → Option Nat
  | .cells b _ _ => some b
  | .row v _ _ _ => v.ownBlock
  | .obj b _ => some b
  | .imap b _ _ => some b
  | .loop b _ _ _ _ _ _ _ _ _ => some b
  | .glob _ _ => none

/-- What stays behind every step: the world at the start, and blocks that nobody here touches. -/
structure Fx where
  w0 : World
  fr : Mem

structure Good (X : Fx) (M : Mem) (σ : List Ent) (w : World) : Prop where
  os : w.os = X.w0.os
  tape : w.tape = X.w0.tape
  output : w.output = X.w0.output
  mem : ∀ b o, M b = some o → w.heap[b]? = some o
  frm : ∀ b o, X.fr b = some o → w.heap[b]? = some o
  dis : ∀ b o, M b = some o → X.fr b = none
  ent : ∀ e ∈ σ, e.at M w
  own : ∀ e ∈ σ, ∀ b, e.block = some b → M b = none ∧ X.fr b = none
  nod : (σ.filterMap Ent.block).Nodup

theorem Ent.at.mono {M M' : Mem} (h : M.le M') {w : World} : ∀ {e : Ent}, e.at M w → e.at M' w
  | .cells b l t, ⟨c, h1, h2⟩ => ⟨c, h1, VRels.mono h _ _ h2⟩
  | .row v e sz l, ⟨xs, h1, h2, h3⟩ => ⟨xs, h1, VRels.mono h _ _ h2, h3⟩
  | .obj b o, h' => h'
  | .imap b f n, ⟨g, h1, h2⟩ => ⟨g, h1, fun k => by
    have := h2 k
    cases hf : f k <;> cases hg : g k <;> simp only [hf, hg] at this ⊢
    exact VRel.mono h _ _ this⟩
  | .loop b st pe fn env n ps asg body D, ⟨tmps, h1, h2, h3⟩ => ⟨tmps, h1, h2.mono h, h3⟩
  | .glob b l, h' => CRel.mono h l b 0 h'

theorem Ent.at.same {M : Mem} {w w' : World} : ∀ {e : Ent}, (∀ b, e.block = some b → w'.heap[b]? = w.heap[b]?) → e.at M w → e.at M w'
  | .cells b l t, hb, ⟨c, h1, h2⟩ => ⟨c, (hb b rfl).trans h1, h2⟩
  | .row v e sz l, hb, ⟨xs, h1, h2, h3⟩ => by
    refine ⟨xs, ⟨h1.1, ?_⟩, h2, h3⟩
    rcases h1.2 with hn | ⟨g, cap, cur, rfl, hb', hg, rest⟩
    · exact .inl hn
    · exact .inr ⟨g, cap, cur, rfl, hb', (hb g rfl).trans hg, rest⟩
  | .obj b o, hb, h' => (hb b rfl).trans h'
  | .imap b f n, hb, ⟨g, h1, h2⟩ => ⟨g, h1.of_block (hb b rfl), h2⟩
  | .loop b st pe fn env n ps asg body D, hb, ⟨tmps, h1, h2, h3⟩ => ⟨tmps, h1, h2, (hb b rfl).trans h3⟩
  | .glob b l, _, h' => h'

theorem Ent.block_lt {M : Mem} {w : World} : ∀ {e : Ent} {b : Nat}, e.at M w → e.block = some b → b < w.heap.size
  | .cells b l t, b', ⟨c, h1, _⟩, hb => by cases hb; exact (Array.getElem?_eq_some_iff.1 h1).1
  | .row v e sz l, b', ⟨xs, h1, _⟩, hb => (h1.lt b' hb).2
  | .obj b o, b', h', hb => by cases hb; exact (Array.getElem?_eq_some_iff.1 h').1
  | .imap b f n, b', ⟨g, h1, h2⟩, hb => by cases hb; exact h1.lt
  | .loop b st pe fn env n ps asg body D, b', ⟨tmps, h1, h2, h3⟩, hb => by cases hb; exact (Array.getElem?_eq_some_iff.1 h3).1

/-- Ownership may be given up; what is no one's may be left out. -/
theorem Good.sub {X : Fx} {M : Mem} {σ σ' : List Ent} {w : World} (h : Good X M σ w) (hs : σ'.Sublist σ) : Good X M σ' w :=
  ⟨h.os, h.tape, h.output, h.mem, h.frm, h.dis, fun e he => h.ent e (hs.subset he), fun e he => h.own e (hs.subset he), (hs.filterMap _).nodup h.nod⟩

theorem Good.drew {X : Fx} {M : Mem} {σ : List Ent} {w : World} (h : Good X M σ w) : Good X M σ { w with drawn := w.drawn + 1 } :=
  ⟨h.os, h.tape, h.output, h.mem, h.frm, h.dis, fun e he => (h.ent e he).same (fun _ _ => rfl), h.own, h.nod⟩

/-- A new block. -/
theorem Good.alloc {X : Fx} {M : Mem} {σ : List Ent} {w : World} (h : Good X M σ w) (o : Obj) (e : Ent) (hb : e.block = some w.heap.size) (he : e.at M (w.alloc o)) : Good X M (e :: σ) (w.alloc o) := by
  have old : ∀ k, k < w.heap.size → (w.alloc o).heap[k]? = w.heap[k]? := fun k hk => Go.RowKit.Below.heap_alloc w o k hk
  have lt : ∀ b (o' : Obj), w.heap[b]? = some o' → b < w.heap.size := fun b o' ho => (Array.getElem?_eq_some_iff.1 ho).1
  refine ⟨h.os, h.tape, h.output, fun b o' ho => (old b (lt b o' (h.mem b o' ho))).trans (h.mem b o' ho), fun b o' ho => (old b (lt b o' (h.frm b o' ho))).trans (h.frm b o' ho), h.dis, ?_, ?_, ?_⟩
  · intro e' he'
    rcases List.mem_cons.1 he' with rfl | he'
    · exact he
    · exact (h.ent e' he').same (fun b hb => old b (Ent.block_lt (h.ent e' he') hb))
  · intro e' he' b hb'
    rcases List.mem_cons.1 he' with rfl | he'
    · rw [hb] at hb'; cases hb'
      constructor
      · cases ho : M w.heap.size with
        | none => rfl
        | some o' => exact absurd (lt _ o' (h.mem _ o' ho)) (Nat.lt_irrefl _)
      · cases ho : X.fr w.heap.size with
        | none => rfl
        | some o' => exact absurd (lt _ o' (h.frm _ o' ho)) (Nat.lt_irrefl _)
    · exact h.own e' he' b hb'
  · rw [List.filterMap_cons_some hb, List.nodup_cons]
    refine ⟨fun hm => ?_, h.nod⟩
    obtain ⟨e', he', hb'⟩ := List.mem_filterMap.1 hm
    exact absurd (Ent.block_lt (h.ent e' he') hb') (Nat.lt_irrefl _)

/-- An entry stands somewhere in the list; another one takes its place. -/
inductive Upd : List Ent → Ent → Ent → List Ent → Prop
  | here {e e' : Ent} {σ : List Ent} : Upd (e :: σ) e e' (e' :: σ)
  | there {e e' x : Ent} {σ σ' : List Ent} : Upd σ e e' σ' → Upd (x :: σ) e e' (x :: σ')

theorem Upd.mem {σ σ' : List Ent} {e e' : Ent} (h : Upd σ e e' σ') : e ∈ σ := by
  induction h with
  | here => simp
  | there _ ih => simp [ih]
theorem Upd.split {σ σ' : List Ent} {e e' : Ent} (h : Upd σ e e' σ') : ∃ a c, σ = a ++ e :: c ∧ σ' = a ++ e' :: c := by
  induction h with
  | @here e e' σ => exact ⟨[], σ, rfl, rfl⟩
  | @there e e' x σ σ' _ ih => obtain ⟨a, c, h1, h2⟩ := ih; exact ⟨x :: a, c, by rw [h1]; rfl, by rw [h2]; rfl⟩

/-- One entry turned in place, its block the old one, or a new one; the rest lies as it lay. -/
theorem Good.upd {X : Fx} {M : Mem} {σ σ' : List Ent} {e e' : Ent} {w w' : World} (h : Good X M σ w) (hu : Upd σ e e' σ') (hos : w'.os = w.os) (htp : w'.tape = w.tape) (hout : w'.output = w.output)
    (hold : ∀ k, k < w.heap.size → e.block ≠ some k → w'.heap[k]? = w.heap[k]?) (he : e'.at M w') (hblk : e'.block = e.block ∨ ∃ b, e'.block = some b ∧ w.heap.size ≤ b) : Good X M σ' w' := by
  obtain ⟨a, c, rfl, rfl⟩ := hu.split
  have lt : ∀ b (o' : Obj), w.heap[b]? = some o' → b < w.heap.size := fun b o' ho => (Array.getElem?_eq_some_iff.1 ho).1
  have hme : e ∈ a ++ e :: c := by simp
  have hnod := h.nod
  simp only [List.filterMap_append, List.filterMap_cons] at hnod
  have oth : ∀ x ∈ a ++ c, ∀ b, x.block = some b → e.block ≠ some b := by
    intro x hx b hb heq
    rw [heq] at hnod
    simp only [List.nodup_append, List.nodup_cons] at hnod
    have hmem : b ∈ (a.filterMap Ent.block) ∨ b ∈ c.filterMap Ent.block := by
      rcases List.mem_append.1 hx with hx | hx
      · exact .inl (List.mem_filterMap.2 ⟨x, hx, hb⟩)
      · exact .inr (List.mem_filterMap.2 ⟨x, hx, hb⟩)
    rcases hmem with hm | hm
    · exact hnod.2.2 b hm b (by simp) rfl
    · exact hnod.2.1.1 hm
  refine ⟨hos.trans h.os, htp.trans h.tape, hout.trans h.output, fun b o' ho => ?_, fun b o' ho => ?_, h.dis, ?_, ?_, ?_⟩
  · refine (hold b (lt b o' (h.mem b o' ho)) (fun hb => ?_)).trans (h.mem b o' ho)
    have := (h.own e hme b hb).1; rw [ho] at this; cases this
  · refine (hold b (lt b o' (h.frm b o' ho)) (fun hb => ?_)).trans (h.frm b o' ho)
    have := (h.own e hme b hb).2; rw [ho] at this; cases this
  · intro x hx
    rcases List.mem_append.1 hx with hx | hx
    · have hx' : x ∈ a ++ e :: c := by simp [hx]
      exact (h.ent x hx').same (fun b hb => hold b (Ent.block_lt (h.ent x hx') hb) (oth x (by simp [hx]) b hb))
    · rcases List.mem_cons.1 hx with rfl | hx
      · exact he
      · have hx' : x ∈ a ++ e :: c := by simp [hx]
        exact (h.ent x hx').same (fun b hb => hold b (Ent.block_lt (h.ent x hx') hb) (oth x (by simp [hx]) b hb))
  · intro x hx b hb
    rcases List.mem_append.1 hx with hx | hx
    · exact h.own x (by simp [hx]) b hb
    · rcases List.mem_cons.1 hx with rfl | hx
      · rcases hblk with hk | ⟨b', hk, hge⟩
        · rw [hk] at hb; exact h.own e hme b hb
        · rw [hk] at hb
          obtain rfl : b' = b := by simpa using hb
          constructor
          · cases ho : M b' with
            | none => rfl
            | some o' => exact absurd (lt _ o' (h.mem _ o' ho)) (by omega)
          · cases ho : X.fr b' with
            | none => rfl
            | some o' => exact absurd (lt _ o' (h.frm _ o' ho)) (by omega)
      · exact h.own x (by simp [hx]) b hb
  · simp only [List.filterMap_append, List.filterMap_cons]
    rcases hblk with hk | ⟨b', hk, hge⟩
    · rw [hk]; exact hnod
    · rw [hk]
      have h1 : (a.filterMap Ent.block ++ c.filterMap Ent.block).Nodup := by
        cases hb : e.block with
        | none => rw [hb] at hnod; exact hnod
        | some b => rw [hb] at hnod; simp only [List.nodup_append, List.nodup_cons] at hnod ⊢; exact ⟨hnod.1, hnod.2.1.2, fun x hx y hy => hnod.2.2 x hx y (by simp [hy])⟩
      have fresh : ∀ x ∈ a ++ c, x.block ≠ some b' := fun x hx hb => by
        have hx' : x ∈ a ++ e :: c := by rcases List.mem_append.1 hx with hx | hx <;> simp [hx]
        have := Ent.block_lt (h.ent x hx') hb; omega
      simp only [List.nodup_append, List.nodup_cons] at h1 ⊢
      refine ⟨h1.1, ⟨fun hm => ?_, h1.2.1⟩, fun x hx y hy => ?_⟩
      · obtain ⟨e', he', hb'⟩ := List.mem_filterMap.1 hm; exact fresh e' (by simp [he']) hb'
      · rcases List.mem_cons.1 hy with rfl | hy
        · rintro rfl; obtain ⟨e', he', hb'⟩ := List.mem_filterMap.1 hx; exact fresh e' (by simp [he']) hb'
        · exact h1.2.2 x hx y hy
end Go.Proofs.Ytobcnochlkdpaaa
