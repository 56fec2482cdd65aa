/- A logic of abstract values, fifth part: slices that are made and grow; tuples; calls; functions. -/
import Derived.Test.YtobcnochlkdpaaaSd
namespace Go.Proofs.Ytobcnochlkdpaaa
set_option linter.unusedSimpArgs false
set_option linter.unusedVariables false

section
variable {P : Program} {ro : Option Nat} {env : Env} {σ σ' : List Ent} {o : Oper} {dst : Option Tmp} {ty : TypeId} {pos : String} {after : Array Edge} {guard : Option (Nat × Bool)}

def appOf (P : Program) (t : TypeId) : Option (TypeId × Nat × Nat) := match P.underlying t with
  | some (.slice e) => match P.info? e with
    | some i => match i.zero with
      | some z => if z.cells.size = i.size ∧ 0 < i.size ∧ 0 < i.bytes then some (e, i.size, i.bytes) else none
      | none => none
    | none => none
  | _ => none
theorem appOf_spec {t e : TypeId} {sz bytes : Nat} (h : appOf P t = some (e, sz, bytes)) : P.underlying t = some (.slice e) ∧ ∃ i z, P.info? e = some i ∧ i.zero = some z ∧ i.size = sz ∧ i.bytes = bytes ∧ z.cells.size = sz ∧ 0 < sz ∧ 0 < bytes := by
  unfold appOf at h
  split at h
  · rename_i e' he
    split at h
    · rename_i i hi
      split at h
      · rename_i z hz
        split at h
        · rename_i hc
          cases h
          exact ⟨he, i, z, hi, hz, rfl, rfl, hc.1, hc.2⟩
        · cases h
      · cases h
    · cases h
  · cases h

def chunkN : Nat → Nat → List AV → List (List AV)
  | 0, _, _ => []
  | n + 1, sz, L => L.take sz :: chunkN n sz (L.drop sz)
theorem chunkN_spec : ∀ (n sz : Nat) (L : List AV), L.length = n * sz → (chunkN n sz L).flatten = L ∧ (chunkN n sz L).length = n ∧ ∀ x ∈ chunkN n sz L, x.length = sz
  | 0, sz, L, h => by simp at h; subst h; simp [chunkN]
  | n + 1, sz, L, h => by
    rw [Nat.add_mul, Nat.one_mul] at h
    obtain ⟨h1, h2, h3⟩ := chunkN_spec n sz (L.drop sz) (by simp [h])
    refine ⟨by simp [chunkN, h1], by simp [chunkN, h2], ?_⟩
    intro x hx
    rcases List.mem_cons.1 hx with rfl | hx
    · simp [h]
    · exact h3 x hx

theorem fillA_length (place : Nat → Option (Nat × Nat)) : ∀ (parts : List (Nat × AV)) (l L : List AV), fillA place l parts = some L → L.length = l.length
  | [], l, L, h => by simp only [fillA, Option.some.injEq] at h; rw [h]
  | (i, v) :: r, l, L, h => by
    simp only [fillA] at h
    split at h
    · cases h
    · split at h
      · cases h
      · rename_i off n _ hn
        have h2 : off + v.cells.length ≤ l.length := Nat.le_of_not_lt fun h => hn (.inr (.inl h))
        have := fillA_length place r _ _ h
        rw [this, setL_eq _ _ _ h2]
        simp; omega

/-- Zeros, one after the other. -/
def zerosA (z : List AV) (n : Nat) : List AV := (List.range n).map fun i => (z[i % z.length]?).getD default

theorem zeros_rel (M : Mem) {z : Value} {n : Nat} (hz : 0 < n → 0 < z.cells.size) : VRels M (zerosA (z.cells.toList.map cA) n) ((Array.range n).map (z.cells[· % z.cells.size]!)).toList := by
  refine VRels.of_get (by simp [zerosA]) (fun i x v h1 h2 => ?_)
  simp only [zerosA, List.length_map, Array.length_toList, List.getElem?_map, List.getElem?_range] at h1
  simp only [Array.toList_map, Array.toList_range, List.getElem?_map] at h2
  by_cases hi : i < n
  · rw [List.getElem?_range hi] at h1 h2
    simp only [Option.map_some, Option.some.injEq] at h1 h2
    have hlt : i % z.cells.size < z.cells.size := Nat.mod_lt _ (hz (by omega))
    rw [← h1, ← h2]
    simp [hlt, cA_rel]
  · rw [List.getElem?_eq_none (by simpa using hi)] at h1; cases h1

theorem g_buildSlice {t e : TypeId} {sz len bytes : Nat} {parts : Array (Nat × Operand)} {z L : List AV} {l : List (Nat × AV)} {R : List (List AV)} (ht : appOf P t = some (e, sz, bytes)) (hz : zeroA P e = some z) (hlim : len * sz ≤ 16777216)
    (hl : partsA env parts.toList = some l) (hf : fillA (fun i => some (i * sz, sz)) (zerosA z (len * sz)) l = some L) (hR : chunkN len sz L = R) :
    GOp P ro ⟨dst, .buildSlice t len parts, ty, pos, after, guard⟩ env σ (Rowed e sz R σ) :=
  gop_run (by intro c h; cases h) fun X M a w hg ho => by
    subst hR
    obtain ⟨hue, inf, z', hinf, hz', hsz, _, hzl, h0, _⟩ := appOf_spec ht
    obtain ⟨i, zv, hi, hzv, rfl⟩ := zeroA_spec hz
    rw [hinf] at hi; cases hi
    rw [hz'] at hzv; cases hzv
    obtain ⟨k1, k2⟩ := partsA_rel (a := a) (M := M) (fun x hx v hv => ho x (by simpa [Op.operands] using hx) v hv) hl
    obtain ⟨c', h1, h2⟩ := fill_rel (fun i => some (i * sz, sz)) l (parts.toList.map fun p => (p.1, a.eval p.2)) _ ((Array.range (len * sz)).map (z'.cells[· % z'.cells.size]!)) L (zeros_rel M (fun _ => by omega)) k1 k2 hf
    have hLl := fillA_length _ _ _ _ hf
    simp only [zerosA, List.length_map, List.length_range] at hLl
    obtain ⟨c1, c2, c3⟩ := chunkN_spec len sz L hLl
    have hc' : c'.size = len * sz := by have := h2.length; simp only [Array.length_toList] at this; omega
    have hlm : len ≤ maxLen := by
      have := Nat.le_mul_of_pos_right len h0
      unfold maxLen; omega
    have hgd := alloc_row hg c' e sz (l := chunkN len sz L) (cap := len) (by omega) hlm hc' c3 (by rw [c1, c2, List.take_of_length_le (by simp [hc'])]; exact h2)
    rw [c2] at hgd
    refine ⟨M, .slice (some ⟨w.heap.size, 0, none⟩) len len, _, .slv _, _, Mem.le_refl M, hgd, by simp [VRel, Value.isSl], .mk _, .inl ?_⟩
    have hb : ¬ 16777216 < len * sz := by omega
    by_cases hn : len * sz = 0
    · have e0 : Array.map (fun x => (#[] : Array Value)[x % (#[] : Array Value).size]!) (Array.range (len * sz)) = Array.map (fun x => z'.cells[x % z'.cells.size]!) (Array.range (len * sz)) := by
        have hr0 : Array.range (len * sz) = #[] := by rw [hn]; simp
        rw [hr0]; simp
      simp only [execOp, Instr.buildSlice, Sem.run_bind, run_underlying hue, Result.andThen_ok, sizeOf, typeInfo, run_program, hinf, Sem.run_pure, hsz]
      rw [if_neg hb]
      simp only [Sem.run_bind, Sem.run_pure, Result.andThen_ok, if_pos hn]
      rw [e0]
      have e1 : (parts.map fun x => (x.1, a.eval x.2)).toList = parts.toList.map fun p => (p.1, a.eval p.2) := by simp
      simp only [e1, h1]
      simp [Sem.run_bind, newRow, newObj, Sem.run]
    · simp only [execOp, Instr.buildSlice, Sem.run_bind, run_underlying hue, Result.andThen_ok, sizeOf, typeInfo, run_program, hinf, Sem.run_pure, hsz]
      rw [if_neg hb]
      simp only [Sem.run_bind, Sem.run_pure, Result.andThen_ok, if_neg hn, zeroValue, typeInfo, run_program, hinf, hz']
      have e1 : (parts.map fun x => (x.1, a.eval x.2)).toList = parts.toList.map fun p => (p.1, a.eval p.2) := by simp
      simp only [e1, h1]
      simp [Sem.run_bind, newRow, newObj, Sem.run]

/-- What append may take its elements from. -/
inductive Src (σ : List Ent) : AV → Nat → List (List AV) → Prop
  | d {sz : Nat} {m : List (List AV)} : Src σ (.dl sz m) sz m
  | r {v : Value} {e : TypeId} {sz : Nat} {m : List (List AV)} (h : Ent.row v e sz m ∈ σ) : Src σ (.slv v) sz m
  | n {sz : Nat} : Src σ (.slv nilS) sz []


theorem row_vals {M : Mem} {w : World} {b sz : Nat} : ∀ {m : List (List AV)} {off : Nat}, (∀ b' i v, M.cell b' i = some v → w.cell? ⟨b', i, none⟩ = some v) → (∀ x ∈ m, x.length = sz) → RRel M b off m → ∃ vs : List Value, VRels M m.flatten vs ∧ vs.length = m.length * sz ∧ ∀ (j : Nat) (v : Value), vs[j]? = some v → w.cell? ⟨b, off + j, none⟩ = some v
  | [], off, _, _, _ => ⟨[], by simp [VRels], by simp, by simp⟩
  | x :: m, off, hw, hs, h => by
    simp only [RRel] at h
    obtain ⟨vs, h1, h2, h3⟩ := row_vals (off := off + x.length) hw (fun y hy => hs y (by simp [hy])) h.2
    have cell : ∀ {x : List AV} {i : Nat}, CRel M b i x → ∃ us : List Value, VRels M x us ∧ us.length = x.length ∧ ∀ (j : Nat) (v : Value), us[j]? = some v → w.cell? ⟨b, i + j, none⟩ = some v := by
      intro x
      induction x with
      | nil => intro i _; exact ⟨[], by simp [VRels], rfl, by simp⟩
      | cons u x ih =>
        intro i hc
        simp only [CRel] at hc
        obtain ⟨⟨v, k1, k2⟩, k3⟩ := hc
        obtain ⟨us, e1, e2, e3⟩ := ih k3
        refine ⟨v :: us, by simp only [VRels]; exact ⟨v, us, rfl, k2, e1⟩, by simp [e2], fun j y hy => ?_⟩
        cases j with
        | zero => simp at hy; subst hy; exact hw b i v k1
        | succ j => simp at hy; have := e3 j y hy; rwa [show i + 1 + j = i + (j + 1) by omega] at this
    obtain ⟨us, e1, e2, e3⟩ := cell h.1
    have hx := hs x (by simp)
    refine ⟨us ++ vs, by rw [List.flatten_cons]; exact e1.append h1, by simp [e2, h2, hx, Nat.add_mul]; omega, fun j v hv => ?_⟩
    by_cases hj : j < us.length
    · rw [List.getElem?_append_left hj] at hv; exact e3 j v hv
    · rw [List.getElem?_append_right (by omega)] at hv
      have := h3 _ v hv
      rwa [← e2, show off + us.length + (j - us.length) = off + j by omega] at this

theorem src_vals {X : Fx} {M : Mem} {w : World} (hg : Good X M σ w) {x : AV} {sz : Nat} {m : List (List AV)} (h : Src σ x sz m) {u : Value} (hu : VRel M x u) :
    ∃ a cap, u = .slice a m.length cap ∧ ∃ vs : List Value, VRels M m.flatten vs ∧ vs.length = m.length * sz ∧ (∀ x ∈ m, x.length = sz) ∧ (a = none → m = []) ∧ ∀ ad, a = some ad → ∀ (j : Nat) (v : Value), vs[j]? = some v → w.cell? (ad.add j) = some v := by
  cases h with
  | d =>
    simp only [VRel] at hu
    obtain ⟨a, cap, rfl, h1, h2, h3, h4⟩ := hu
    rcases h4 with rfl | ⟨b, off, rfl, hr⟩
    · exact ⟨a, cap, rfl, [], by simp [VRels], by simp, by simp, fun _ => rfl, by simp⟩
    · obtain ⟨vs, e1, e2, e3⟩ := row_vals (w := w) (fun _ _ _ hc => cell_of_mem hg hc) h3 hr
      refine ⟨_, cap, rfl, vs, e1, e2, h3, by simp, ?_⟩
      rintro ad ⟨⟩ j v hv
      have : (⟨b, off, none⟩ : Addr).add j = ⟨b, off + j, none⟩ := by unfold Addr.add; split <;> simp_all
      rw [this]; exact e3 j v hv
  | r hm =>
    simp only [VRel] at hu
    obtain ⟨rfl, _⟩ := hu
    obtain ⟨xs, hown, hr, hs⟩ := hg.ent _ hm
    have hl := hown.1
    rcases hown.2 with ⟨rfl, h0⟩ | ⟨g, cap, cur, rfl, hb, hgg, hnc, hcm, _⟩
    · have : m = [] := List.eq_nil_of_length_eq_zero h0
      subst this
      exact ⟨none, 0, rfl, xs, hr, hl, hs, fun _ => rfl, by simp⟩
    · refine ⟨_, cap, rfl, xs, hr, hl, hs, by simp, ?_⟩
      rintro ad ⟨⟩ j v hv
      exact hown.cells (g := g) rfl j v hv
  | n =>
    simp only [VRel] at hu
    obtain ⟨rfl, _⟩ := hu
    exact ⟨none, 0, rfl, [], by simp [VRels], by simp, by simp, fun _ => rfl, by simp⟩

theorem run_append_none' {w : World} (t ty' e : TypeId) (i : TypeInfo) (size : Nat) (ht : P.underlying t = some (.slice e)) (hi : P.info? e = some i) {v : Value} {n cap : Nat} {xs : List Value} (hown : w.ownsRow 0 e size v n xs) :
    (Builtin.append_ #[t, t] ty' #[v, .slice none 0 cap]).run P w = .ok v w := by
  rcases hown.2 with ⟨rfl, rfl⟩ | ⟨g, cap, cur, rfl, _, _, hnc, _⟩
  · simp [Builtin.append_, run_underlying ht, sizeOf, typeInfo, hi, Builtin.lenOf, Builtin.firstCells]
  · simp [Builtin.append_, run_underlying ht, sizeOf, typeInfo, hi, Builtin.lenOf, Builtin.firstCells, hnc, storeCells]

theorem append_core {X : Fx} {M : Mem} {w : World} {t e : TypeId} {sz bytes : Nat} {v : Value} {l m : List (List AV)} {xs : List Value} (ht : appOf P t = some (e, sz, bytes)) (hg : Good X M σ w) (hown : w.ownsRow 0 e sz v l.length xs) (hr : VRels M l.flatten xs) (hs : ∀ x ∈ l, x.length = sz)
    {x : AV} {u : Value} (hsrc : Src σ x sz m) (hu : VRel M x u) (hone : ∀ y ∈ m, y.all AV.one = true) (hb : (l.length + m.length) * bytes ≤ 140737488355328) (ty' : TypeId) :
    ∃ v' w', (Builtin.append_ #[t, t] ty' #[v, u]).run P w = .ok v' w' ∧ (Ent.row v' e sz (l ++ m)).at M w' ∧ w.grownBy w' v.ownBlock ∧ (v'.ownBlock = v.ownBlock ∨ ∃ b, v'.ownBlock = some b ∧ w.heap.size ≤ b) := by
  obtain ⟨hue, i, z, hi, hz, hsz, hby, hzl, h0, hb0⟩ := appOf_spec ht
  obtain ⟨a, cap, rfl, vs, hv1, hv2, hv3, hv4, hv5⟩ := src_vals hg hsrc hu
  have hone' : m.flatten.all AV.one = true := by
    rw [List.all_eq_true]
    intro y hy
    obtain ⟨q, hq, hy⟩ := List.mem_flatten.1 hy
    exact List.all_eq_true.1 (hone q hq) y hy
  have h63 : l.length + m.length ≤ maxLen := by
    have := Nat.le_mul_of_pos_right (l.length + m.length) hb0
    unfold maxLen; omega
  have hsz' : ∀ x ∈ l ++ m, x.length = sz := fun x hx => by rcases List.mem_append.1 hx with hx | hx; exact hs x hx; exact hv3 x hx
  cases a with
  | none =>
    have hm := hv4 rfl
    subst hm
    refine ⟨v, w, run_append_none' t ty' e i sz hue hi hown, ⟨xs, by simpa using hown, by simpa using hr, by simpa using hs⟩, ⟨rfl, rfl, rfl, Nat.le_refl _, fun _ _ _ => rfl⟩, .inl rfl⟩
  | some ad =>
    obtain ⟨v', w', hrun, hown', hgr, _⟩ := run_append_own (P := P) w 0 t ty' e i z sz bytes hue hi hz hsz hby hzl h0 v l.length xs hown ad m.length cap vs (by rw [hv2]) (hv5 ad rfl) (one_of_rels hv1 hone') h63 hb (Nat.zero_le _)
    refine ⟨v', w', hrun, ⟨xs ++ vs, by simpa using hown', by rw [List.flatten_append]; exact hr.append hv1, hsz'⟩, hgr, ?_⟩
    clear hown' hgr
    have h1' := one_of_rels hv1 hone'
    rcases hown.2 with ⟨rfl, hn0⟩ | ⟨g2, cap2, cur2, rfl, hbg, hgg, hnc, hcm, hcs, htk⟩
    · obtain ⟨v2, w2, hrun2, hown2, _, _⟩ := run_append_own (P := P) w w.heap.size t ty' e i z sz bytes hue hi hz hsz hby hzl h0 nilS 0 [] (World.ownsRow_nil w _ e sz) ad m.length cap vs (by rw [hv2]) (hv5 ad rfl) h1' (by omega) (by rw [Nat.zero_add]; exact Nat.le_trans (Nat.mul_le_mul_right bytes (Nat.le_add_left _ l.length)) hb) (Nat.le_refl _)
      rw [hrun2] at hrun
      cases hrun
      rcases hown2.2 with ⟨rfl, _⟩ | ⟨g, cap', cur, rfl, hge, _⟩
      · exact .inl rfl
      · exact .inr ⟨g, rfl, hge⟩
    · by_cases hroom : l.length + m.length ≤ cap2
      · have hfit : l.length * i.size + vs.length ≤ cur2.size := by rw [hv2, hcs, hsz, ← Nat.add_mul]; exact Nat.mul_le_mul_right _ hroom
        have hr2 := run_append_room (P := P) w t ty' e i hue hi g2 l.length cap2 cur2 hgg ad m.length cap vs (by rw [hv2, hsz]) (hv5 ad rfl) h1' hroom hfit
        rw [hr2] at hrun
        cases hrun
        exact .inl rfl
      · have holds : ∀ (j : Nat) (u : Value), xs[j]? = some u → w.cell? ((⟨g2, 0, none⟩ : Addr).add j) = some u := hown.cells (g := g2) rfl
        have hsm : l.length + m.length ≤ 9223372036854775807 := by unfold maxLen at h63; omega
        have hr2 := run_append_grow (P := P) w t ty' e i z hue hi hz ⟨g2, 0, none⟩ l.length cap2 xs (by rw [hsz]; exact hown.1) holds ad m.length cap vs (by rw [hv2, hsz]) (hv5 ad rfl) (by omega) (by omega) (growslice_fits (by omega) (by rw [hby]; exact hb))
        rw [hr2] at hrun
        cases hrun
        exact .inr ⟨_, rfl, by simp⟩

theorem isSl_row {M : Mem} {w : World} {v : Value} {e : TypeId} {sz : Nat} {l : List (List AV)} (h : (Ent.row v e sz l).at M w) : v.isSl = true := by
  obtain ⟨xs, hown, _⟩ := h
  rcases hown.2 with ⟨rfl, _⟩ | ⟨g, cap, cur, rfl, _⟩ <;> rfl

/-- The row v has become another one. -/
inductive Grew (F : Value → List Ent) : AV → List Ent → Prop
  | mk (v : Value) : Grew F (.slv v) (F v)
theorem g_append {t e : TypeId} {sz bytes : Nat} {s x : Operand} {v : Value} {xv : AV} {l m : List (List AV)} {F : Value → List Ent} (ht : appOf P t = some (e, sz, bytes)) (hs : evA env s = some (.slv v)) (hx : evA env x = some xv) (hu : ∀ v', Upd σ (.row v e sz l) (.row v' e sz (l ++ m)) (F v'))
    (hsrc : Src σ xv sz m) (hone : ∀ y ∈ m, y.all AV.one = true) (hb : (l.length + m.length) * bytes ≤ 140737488355328) :
    GOp P ro ⟨dst, .call { callee := .builtin .append, args := #[s, x], argTypes := #[t, t] }, ty, pos, after, guard⟩ env σ (Grew F) :=
  gop_run (by intro c h; cases h) fun X M a w hg ho => by
    have h1 := ho s (by simp [Op.operands, Call.operands]) _ hs
    have h2 := ho x (by simp [Op.operands, Call.operands]) _ hx
    simp only [VRel] at h1
    obtain ⟨h1, _⟩ := h1
    obtain ⟨xs, hown, hr, hsl⟩ := hg.ent _ (hu v).mem
    obtain ⟨v', w', hrun, hent, hgr, hblk⟩ := append_core (P := P) ht hg hown hr hsl hsrc h2 hone hb ty
    refine ⟨M, v', w', .slv v', F v', Mem.le_refl M, hg.upd (hu v') hgr.os hgr.tape hgr.output (fun k hk hne => hgr.block k hk (fun e => hne e.symm)) hent hblk, ⟨rfl, isSl_row hent⟩, .mk v', .inl ?_⟩
    simp [execOp, resolve, invoke, builtin, Sem.run_bind, h1, hrun]
theorem g_appendNil {t e : TypeId} {sz bytes : Nat} {s x : Operand} {xv : AV} {m : List (List AV)} (ht : appOf P t = some (e, sz, bytes)) (hs : evA env s = some (.slv nilS)) (hx : evA env x = some xv)
    (hsrc : Src σ xv sz m) (hone : ∀ y ∈ m, y.all AV.one = true) (hb : m.length * bytes ≤ 140737488355328) :
    GOp P ro ⟨dst, .call { callee := .builtin .append, args := #[s, x], argTypes := #[t, t] }, ty, pos, after, guard⟩ env σ (Rowed e sz m σ) :=
  gop_run (by intro c h; cases h) fun X M a w hg ho => by
    have h1 := ho s (by simp [Op.operands, Call.operands]) _ hs
    have h2 := ho x (by simp [Op.operands, Call.operands]) _ hx
    simp only [VRel] at h1
    obtain ⟨h1, _⟩ := h1
    have hown := World.ownsRow_nil w 0 e sz
    obtain ⟨v', w', hrun, hent, hgr, hblk⟩ := append_core (P := P) (l := []) ht hg hown (by simp [VRels]) (by simp) hsrc h2 hone (by simpa using hb) ty
    have hn : Good X M (.row nilS e sz [] :: σ) w := ⟨hg.os, hg.tape, hg.output, hg.mem, hg.frm, hg.dis, fun e' he => by
      rcases List.mem_cons.1 he with rfl | he
      · exact ⟨[], hown, by simp [VRels], by simp⟩
      · exact hg.ent e' he, fun e' he b hb => by
      rcases List.mem_cons.1 he with rfl | he
      · cases hb
      · exact hg.own e' he b hb, hg.nod⟩
    refine ⟨M, v', w', .slv v', _, Mem.le_refl M, hn.upd (σ' := .row v' e sz ([] ++ m) :: σ) .here hgr.os hgr.tape hgr.output (fun k hk hne => hgr.block k hk (fun e => hne e.symm)) hent hblk, ⟨rfl, isSl_row hent⟩, .mk v', .inl ?_⟩
    simp [execOp, resolve, invoke, builtin, Sem.run_bind, h1, hrun]
end
end Go.Proofs.Ytobcnochlkdpaaa
